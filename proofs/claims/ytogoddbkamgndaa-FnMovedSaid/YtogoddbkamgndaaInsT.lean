/- Contract of slices.Insert of one record into a row of the call's own. -/
import Derived.Test.YtogoddbkamgndaaCopyR
import Derived.Test.YtogoddbkamgndaaRecStay
import Derived.Deep.RegionHeldLaw
import Derived.Outline
namespace Go.Proofs.Ytogoddbkamgndaa
open Go.RowKit Go.Lib

/-- The row with one record more comes back; of what was there only the row's own block has changed. -/
def InsQT (base n i : Nat) (F : Nat → Nat → Int) (x : Nat → Int) (b : Option Nat) (w : World) (e : Ending) (w' : World) : Prop :=
  ∃ v, e = .returned v ∧ w'.ownsRow base 65 3 v (n + 1) (recs (insF F i x) 3 (n + 1)) ∧ w.grownBy w' b
set_option maxHeartbeats 4000000 in
theorem insT_end (base : Nat) (A : Option Addr) (n c : Nat) (F : Nat → Nat → Int) (vb : Nat) (x : Nat → Int) (w : World) (hn : n ≤ 1048576) (hbase : base ≤ w.heap.size) (ho : w.ownsRow base 65 3 (.slice A n c) n (recs F 3 n)) (hx : Recs w 3 (some ⟨vb, 0, none⟩) 1 (fun _ => x)) :
    Calls Try.prog 67 #[.slice A n c, .int .i64 n, .slice (some ⟨vb, 0, none⟩) 1 1] w (InsQT base n n F x (Value.slice A n c).ownBlock w) := by
  have HO := Lib.hid ho
  have HX := Lib.hid hx
  have hnc : n ≤ c := by
    rcases own_cases ho with ⟨e, h0⟩ | ⟨g, cap, cur, e, _, _, h1, _⟩
    · cases e; omega
    · cases e; exact h1
  have hc63 : c ≤ 9223372036854775807 := by
    rcases own_cases ho with ⟨e, h0⟩ | ⟨g, cap, cur, e, _, _, _, h1, _⟩
    · cases e; omega
    · cases e; unfold maxLen at h1; omega
  clear ho hx
  go_enter Try.func67, Try.ntmps67
  rcases A with _ | a
  · have hc0 : n = 0 ∧ c = 0 := by
      rcases own_cases HO.out with ⟨e, h0⟩ | ⟨g, cap, cur, e, _⟩
      · cases e; exact ⟨rfl, rfl⟩
      · cases e
    obtain ⟨rfl, rfl⟩ := hc0
    go_wp2_with (at_builtin; refine wpList_app_recs rfl (.tmp 23) (.tmp 24) 25 (by rfl) base 65 (.agg #[.int .i64 0, .int .i64 0, .int .i64 0]) 3 24 Try.underlying25 infStay rfl (by decide) (by decide) _ 0 F HO.out (some ⟨vb, 0, none⟩) 1 1 (fun _ => x) (.inr ⟨_, _, rfl⟩) HX.out (by omega) hbase rfl rfl ?_)
    intro v' w' o' hg'
    go_wp2
    go_ret
    exact ⟨v', rfl, own_rec_congr o' (by decide) (fun i hi j _ => by obtain rfl : i = 0 := (by omega); simp [catF, insF]), hg'⟩
  · go_wp2_with (at_builtin; refine wpList_app_recs rfl (.tmp 23) (.tmp 24) 25 (by rfl) base 65 (.agg #[.int .i64 0, .int .i64 0, .int .i64 0]) 3 24 Try.underlying25 infStay rfl (by decide) (by decide) _ n F HO.out (some ⟨vb, 0, none⟩) 1 1 (fun _ => x) (.inr ⟨_, _, rfl⟩) HX.out (by omega) hbase rfl rfl ?_)
    all_goals (intro v' w' o' hg'; go_wp2; go_ret; exact ⟨v', rfl, own_rec_congr o' (by decide) (fun i hi j _ => (by
      simp only [catF, insF]
      split
      · rfl
      · rw [if_pos (by omega)])), hg'⟩)
theorem ins_cells3 {cur cur1 cur2 : Array Value} {F : Nat → Nat → Int} {x : Nat → Int} {i n : Nat} (hi : i < n) (h0 : ∀ m, m < n * 3 → cur[m]? = some (.int .i64 (F (m / 3) (m % 3)))) (ha1 : ∀ j, j < (n - i) * 3 → cur1[(i + 1) * 3 + j]? = some (.int .i64 (F (i + j / 3) (j % 3))))
    (hb1 : ∀ j, j < (i + 1) * 3 → cur1[j]? = cur[j]?) (ha2 : ∀ j, j < 3 → cur2[i * 3 + j]? = some (.int .i64 (x j))) (hb2 : ∀ j, (j < i * 3 ∨ i * 3 + 3 ≤ j) → cur2[j]? = cur1[j]?) :
    ∀ i', i' < n + 1 → ∀ j, j < 3 → cur2[i' * 3 + j]? = some (.int .i64 (insF F i x i' j)) := fun i' hi' j hj => by
  unfold insF
  by_cases h1 : i' < i
  · rw [if_pos h1, hb2 _ (by omega), hb1 _ (by omega), h0 _ (by omega), show (i' * 3 + j) / 3 = i' by omega, show (i' * 3 + j) % 3 = j by omega]
  · rw [if_neg h1]
    by_cases h2 : i' = i
    · rw [if_pos h2, h2]; exact ha2 j hj
    · rw [if_neg h2, hb2 _ (by omega)]
      have := ha1 ((i' - 1 - i) * 3 + j) (by omega)
      rw [show (i + 1) * 3 + ((i' - 1 - i) * 3 + j) = i' * 3 + j by omega, show i + ((i' - 1 - i) * 3 + j) / 3 = i' - 1 by omega, show ((i' - 1 - i) * 3 + j) % 3 = j by omega] at this
      exact this
theorem box_recsT {w : World} {g k n : Nat} {t : TypeId} {cur : Array Value} {F : Nat → Nat → Int} {base c : Nat} (h : w.ownsRow base t k (.slice (some ⟨g, 0, none⟩) n c) n (recs F k n)) (hx : Box w g t cur) {m : Nat} (hm : m < n * k) : cur[m]? = some (.int .i64 (F (m / k) (m % k))) := by
  rw [← hx.cell]
  have := h.cells (g := g) rfl m _ (recs_get' F hm)
  rwa [add_zero_none] at this
set_option maxRecDepth 100000 in
set_option maxHeartbeats 8000000 in
theorem insT_shift (base : Nat) (g n c i : Nat) (F : Nat → Nat → Int) (vb : Nat) (x : Nat → Int) (w : World) (hi : i < n) (hroom : n + 1 ≤ c) (ho : w.ownsRow base 65 3 (.slice (some ⟨g, 0, none⟩) n c) n (recs F 3 n)) (hx : Box w vb 65 #[.int .i64 (x 0), .int .i64 (x 1), .int .i64 (x 2)]) (hne : vb ≠ g) :
    Calls Try.prog 67 #[.slice (some ⟨g, 0, none⟩) n c, .int .i64 i, .slice (some ⟨vb, 0, none⟩) 1 1] w (InsQT base n i F x (some g) w) := by
  have HO := Lib.hid ho
  have HX := Lib.hid hx
  rcases own_cases ho with ⟨e, _⟩ | ⟨g', cap, cur, e, hg, hb, hnc, hcm, hcs⟩
  · cases e
  cases e
  have HB := Lib.hid hb
  have hc63 : c ≤ 9223372036854775807 := by unfold maxLen at hcm; omega
  have hsz : (Try.prog.info? 65).map (·.size) = some 3 := by kernel_rfl
  have hov : ∀ o lb cb, (callFunc 82 #[.slice (some ⟨vb, 0, none⟩) 1 1, .slice (some ⟨g, o, none⟩) lb cb]).run Try.prog w = .ok (.value (.bool false)) w := fun o lb cb => by
    rw [run_callFunc_extern Try.func82 (by kernel_rfl) (by kernel_rfl) (by kernel_rfl) (e := Extern.SlicesOverlaps.overlaps #[25, 25] #[4]) (by kernel_rfl),
      Lib.run_overlaps_apart w 25 4 65 Try.underlying25 3 (fun w => by obtain ⟨i0, hi0, hk⟩ := Option.map_eq_some_iff.1 hsz; simp [sizeOf, typeInfo, hi0, hk]) ⟨vb, 0, none⟩ ⟨g, o, none⟩ 1 1 lb cb hne 65 65 3 cur.size (by unfold World.shape?; rw [show w.heap[vb]? = some (.cells #[.int .i64 (x 0), .int .i64 (x 1), .int .i64 (x 2)] 65 (0, 0)) from hx]; rfl) (by unfold World.shape?; rw [show w.heap[g]? = some (.cells cur 65 (0, 0)) from hb]) (by omega) (hx.frozen 0) (hx.frozen 3)]
    rfl
  have hz2 : ¬ ((i : Int) = (n : Int)) := by omega
  have hz2' : ((i : Int) == (n : Int)) = false := by simp; omega
  have hz3 : decide ((c : Int) < (n : Int) + 1) = false := by simp; omega
  have hin : i ≤ n := by omega
  have hb2 : ¬ (c = i + 1) := by omega
  have hb4 : ¬ (c = i) := by omega
  have hw1 : IntKind.i64.wrap ((i : Int) + 1) = ((i + 1 : Nat) : Int) := by rw [IntKind.wrap_i64]; omega
  have hw2 : IntKind.i64.wrap ((n : Int) + 1) = ((n + 1 : Nat) : Int) := by rw [IntKind.wrap_i64]; omega
  clear ho hx hb
  go_enter Try.func67, Try.ntmps67
  go_wp2_with (simp only [hov])
  have HL := Lib.hid (recs_drop_length F 3 n i)
  have HD := Lib.hid (fun j (hj : j < (n - i) * 3) => recs_drop F (k := 3) (n := n) (i := i) hj)
  have HC := Lib.hid (fun m (hm : m < n * 3) => box_recsT HO.out HB.out hm)
  have HONE := Lib.hid (fun v (hv : v ∈ (recs F 3 n).drop (i * 3)) => recs_one v (List.mem_of_mem_drop hv))
  have HS := Lib.hid (fun j v (hj : ((recs F 3 n).drop (i * 3))[j]? = some v) => show w.drew.cell? ((⟨g, i * 3, none⟩ : Addr).add j) = some v by
    have hlt : j < (n - i) * 3 := by
      rcases Nat.lt_or_ge j ((n - i) * 3) with h | h
      · exact h
      · rw [List.getElem?_eq_none (by rw [HL.out]; omega)] at hj; cases hj
    rw [HD.out j hlt] at hj
    cases hj
    rw [Addr.add_lit, HB.out.drew.cell, HC.out _ (by omega), show (i * 3 + j) / 3 = i + j / 3 by omega, show (i * 3 + j) % 3 = j % 3 by omega])
  have HF : (i + 1) * 3 + ((recs F 3 n).drop (i * 3)).length ≤ cur.size := by rw [HL.out, hcs]; omega
  have HM := Lib.hid (show n - i = Nat.min (n + 1 - i) (n - i) by show _ = min _ _; omega)
  have HCS := Lib.hid hcs
  have HSZ := Lib.hid hsz
  have HF2 := Lib.hid HF
  clear hcs hov HF hsz
  generalize hLe : (recs F 3 n).drop (i * 3) = L at HL HD HONE HS HF2
  clear hLe
  go_region_held_law (fun _ => True) (trivial) (first | (refine step_copy_box w.drew (by rfl) (.tmp 73) (.tmp 76) 25 25 (by rfl) 65 3 Try.underlying25 HSZ.out HB.out.drew ((i + 1) * 3) (n - i) (c - (i + 1)) ⟨g, i * 3, none⟩ (n + 1 - i) (c - i) (n - i) L HM.out HL.out HS.out HF2.out HONE.out (by rfl) (by rfl) ?_; intro W1 cur1 hx1 hs1 hg1 ha1 hb1))
  all_goals (
    have HX1 := Lib.hid (HX.out.drew.grown hg1 (fun e => hne (Option.some.inj e)))
    have HX1b := Lib.hid hx1
    have HA1 := Lib.hid (fun j (hj : j < (n - i) * 3) => show cur1[(i + 1) * 3 + j]? = some (.int .i64 (F (i + j / 3) (j % 3))) by rw [ha1 j (by rw [HL.out]; exact hj)]; exact HD.out j hj)
    have HB1 := Lib.hid (fun j (hj : j < (i + 1) * 3) => hb1 j (.inl hj))
    have HG1 := Lib.hid hg1
    have HS1 := Lib.hid hs1
    obtain ⟨XL, hXL⟩ : ∃ XL : List Value, XL = [.int .i64 (x 0), .int .i64 (x 1), .int .i64 (x 2)] := ⟨_, rfl⟩
    have HXL := Lib.hid hXL
    clear hXL
    have HV := Lib.hid (fun j v (hj : XL[j]? = some v) => show W1.cell? ((⟨vb, 0, none⟩ : Addr).add j) = some v by
      rw [add_zero_none, HX1.out.cell]
      rw [← hj, HXL.out]
      match j with
      | 0 => rfl
      | 1 => rfl
      | 2 => rfl
      | j + 3 => rfl)
    clear hx1 hs1 hg1 ha1 hb1
    obtain ⟨W2, cur2, hrun, hx2, hs2, hg2, ha2, hb2⟩ := run_copy_box W1 25 25 3 65 3 Try.underlying25 HSZ.out HX1b.out (i * 3) (n + 1 - i) (c - i) ⟨vb, 0, none⟩ 1 1 1 XL (by show _ = min _ _; omega) (by rw [HXL.out]; rfl) HV.out (by rw [HS1.out, HCS.out, HXL.out]; simp; omega) (by rw [HXL.out]; intro v hv; simp at hv; rcases hv with rfl | rfl | rfl <;> rfl)
    have HA2 := Lib.hid (fun j (hj : j < 3) => show cur2[i * 3 + j]? = some (.int .i64 (x j)) by
      rw [ha2 j (by rw [HXL.out]; exact hj), HXL.out]
      match j, hj with
      | 0, _ => rfl
      | 1, _ => rfl
      | 2, _ => rfl)
    have HB2 := Lib.hid (fun j (hj : j < i * 3 ∨ i * 3 + 3 ≤ j) => hb2 j (by rw [HXL.out]; exact hj))
    have HR := Lib.hid (own_again (F := insF F i x) (base := base) (n := n + 1) (cap := c) (k := 3) hg hx2 hroom hcm (by rw [hs2, HS1.out, HCS.out]) (by decide) (ins_cells3 hi HC.out HA1.out HB1.out HA2.out HB2.out))
    have HG := Lib.hid (show w.grownBy W2 (some g) from grown_trans (grown_trans (grown_drew (grown_refl w _)) HG1.out) hg2)
    clear hx2 hs2 hg2 ha2 hb2
    go_wp2
    go_ret
    exact ⟨_, rfl, HR.out, HG.out⟩)
theorem grown_moreIT {w a b : World} {row row2 : Option Nat} (h : w.grownBy a row) (k : a.grownBy b row2) (hk : ∀ i, row2 = some i → w.heap.size ≤ i) : w.grownBy b row :=
  ⟨k.os.trans h.os, k.tape.trans h.tape, k.output.trans h.output, Nat.le_trans h.size k.size, fun i hi hne => (k.block i (Nat.lt_of_lt_of_le hi h.size) (fun e => by have := hk i e.symm; omega)).trans (h.block i hi hne)⟩
theorem ins_cells3g {cur0 cur1 cur2 : Array Value} {F : Nat → Nat → Int} {x : Nat → Int} {i n : Nat} (hi : i < n) (h0 : ∀ m, m < i * 3 → cur0[m]? = some (.int .i64 (F (m / 3) (m % 3)))) (ha1 : ∀ j, j < 3 → cur1[i * 3 + j]? = some (.int .i64 (x j)))
    (hb1 : ∀ j, j < i * 3 → cur1[j]? = cur0[j]?) (ha2 : ∀ j, j < (n - i) * 3 → cur2[(i + 1) * 3 + j]? = some (.int .i64 (F (i + j / 3) (j % 3)))) (hb2 : ∀ j, j < (i + 1) * 3 → cur2[j]? = cur1[j]?) :
    ∀ i', i' < n + 1 → ∀ j, j < 3 → cur2[i' * 3 + j]? = some (.int .i64 (insF F i x i' j)) := fun i' hi' j hj => by
  unfold insF
  by_cases h1 : i' < i
  · rw [if_pos h1, hb2 _ (by omega), hb1 _ (by omega), h0 _ (by omega), show (i' * 3 + j) / 3 = i' by omega, show (i' * 3 + j) % 3 = j by omega]
  · rw [if_neg h1]
    by_cases h2 : i' = i
    · rw [if_pos h2, h2, hb2 _ (by omega)]; exact ha1 j hj
    · rw [if_neg h2]
      have := ha2 ((i' - 1 - i) * 3 + j) (by omega)
      rw [show (i + 1) * 3 + ((i' - 1 - i) * 3 + j) = i' * 3 + j by omega, show i + ((i' - 1 - i) * 3 + j) / 3 = i' - 1 by omega, show ((i' - 1 - i) * 3 + j) % 3 = j by omega] at this
      exact this
theorem zeroCells_sizeT (z : Array Value) (n : Nat) : (Builtin.zeroCells z n).size = n * z.size := by simp [Builtin.zeroCells]
set_option maxRecDepth 100000 in
set_option maxHeartbeats 8000000 in
theorem insT_grow (base : Nat) (g n c i : Nat) (F : Nat → Nat → Int) (vb : Nat) (x : Nat → Int) (w : World) (hn : n ≤ 1048576) (hbase : base ≤ w.heap.size) (hi : i < n) (hroom : c < n + 1) (ho : w.ownsRow base 65 3 (.slice (some ⟨g, 0, none⟩) n c) n (recs F 3 n)) (hx : Box w vb 65 #[.int .i64 (x 0), .int .i64 (x 1), .int .i64 (x 2)]) :
    Calls Try.prog 67 #[.slice (some ⟨g, 0, none⟩) n c, .int .i64 i, .slice (some ⟨vb, 0, none⟩) 1 1] w (InsQT base n i F x (some g) w) := by
  have HO := Lib.hid ho
  have HX := Lib.hid hx
  rcases own_cases ho with ⟨e, _⟩ | ⟨g', cap, cur, e, hg, hb, hnc, hcm, hcs⟩
  · cases e
  cases e
  have HB := Lib.hid hb
  have HC := Lib.hid (fun m (hm : m < n * 3) => box_recsT HO.out HB.out hm)
  have hc63 : c ≤ 9223372036854775807 := by unfold maxLen at hcm; omega
  have HSZ := Lib.hid (show (Try.prog.info? 65).map (·.size) = some 3 by kernel_rfl)
  obtain ⟨i0, hi0, hz0, hzs, hzb⟩ := info_parts infStay
  have hold : (Builtin.firstCells i0.size i (.slice (some ⟨g, 0, none⟩) i c)).run Try.prog w.drew = .ok ((recs F 3 n).take (i * 3)).toArray w.drew := by
    rw [hzs]
    exact run_firstCells_some (w := w.drew) 3 i ⟨g, 0, none⟩ i c ((recs F 3 n).take (i * 3)) (by rw [List.length_take, recs_length]; omega) (fun j v hj => by
      rw [List.getElem?_take] at hj
      split at hj
      · rename_i hlt
        rw [recs_get' F (by omega)] at hj
        cases hj
        rw [add_zero_none, HB.out.drew.cell]
        exact HC.out j (by omega)
      · cases hj)
  have hrz := Lib.run_append_grow_zeros (P := Try.prog) w 25 3 25 65 i0 _ .i64 .i64 Try.underlying25 Try.underlying3 hi0 hz0 (some ⟨g, 0, none⟩) i c ((recs F 3 n).take (i * 3)) hold (n + 1 - i) (by omega) (by omega) (by omega) (by omega) (by rw [hzb]; omega) (by rw [hzb, show i + (n + 1 - i) = n + 1 by omega]; exact growslice_fits hroom (by omega))
  rw [show i + (n + 1 - i) = n + 1 by omega] at hrz
  have hG1 := grownCap_ge w (n + 1) c 65
  have hG2 := grownCap_le_maxLen w (n + 1) c 65 (by unfold maxLen; omega)
  generalize grownCap w (n + 1) c 65 = G at hrz hG1 hG2
  have hG63 : G ≤ 9223372036854775807 := by unfold maxLen at hG2; omega
  obtain ⟨ROW, hROW⟩ : ∃ ROW : Array Value, ROW = ((recs F 3 n).take (i * 3)).toArray ++ Builtin.zeroCells (Value.agg #[.int .i64 0, .int .i64 0, .int .i64 0]).cells (n + 1 - i) ++ Builtin.zeroCells (Value.agg #[.int .i64 0, .int .i64 0, .int .i64 0]).cells (G - (n + 1)) := ⟨_, rfl⟩
  rw [← hROW] at hrz
  have HRS := Lib.hid (show ROW.size = G * 3 by
    rw [hROW]
    simp only [Array.size_append, zeroCells_sizeT, List.size_toArray, List.length_take, recs_length]
    have : (Value.agg #[.int .i64 0, .int .i64 0, .int .i64 0]).cells.size = 3 := rfl
    rw [this]
    omega)
  have HR0 := Lib.hid (fun m (hm : m < i * 3) => show ROW[m]? = some (.int .i64 (F (m / 3) (m % 3))) by
    rw [hROW, Array.append_assoc, Array.getElem?_append_left (by simp [recs_length]; omega), List.getElem?_toArray, List.getElem?_take_of_lt hm, recs_get' F (by omega)])
  obtain ⟨W1, hW1⟩ : ∃ W1, W1 = w.drew.alloc (.cells ROW 65) := ⟨_, rfl⟩
  rw [← hW1] at hrz
  have BX1 := Lib.hid (show Box W1 w.heap.size 65 ROW by rw [hW1]; exact Box.made_at (w := w.drew) rfl)
  have GX1 := Lib.hid (show w.grownBy W1 (some g) by rw [hW1]; exact grown_of_below (((Below.refl w.heap.size w).drew).alloc (Nat.le_refl _) _) _)
  have VX1 := Lib.hid (show Box W1 vb 65 #[.int .i64 (x 0), .int .i64 (x 1), .int .i64 (x 2)] by rw [hW1]; exact (HX.out.drew.alloc _))
  have BG1 := Lib.hid (show Box W1 g 65 cur by rw [hW1]; exact (HB.out.drew.alloc _))
  have ZG := Lib.hid HB.out.lt
  obtain ⟨XL, hXL⟩ : ∃ XL : List Value, XL = [.int .i64 (x 0), .int .i64 (x 1), .int .i64 (x 2)] := ⟨_, rfl⟩
  have HXL := Lib.hid hXL
  have HV := Lib.hid (fun j v (hj : XL[j]? = some v) => show W1.cell? ((⟨vb, 0, none⟩ : Addr).add j) = some v by
    rw [add_zero_none, VX1.out.cell]
    rw [← hj, HXL.out]
    match j with
    | 0 => rfl
    | 1 => rfl
    | 2 => rfl
    | j + 3 => rfl)
  obtain ⟨W2, cur2, hrun, hx2, hs2, hg2, ha2, hb2⟩ := run_copy_box W1 25 25 3 65 3 Try.underlying25 HSZ.out BX1.out (i * 3) (n + 1 - i) (G - i) ⟨vb, 0, none⟩ 1 1 1 XL (by show _ = min _ _; omega) (by rw [HXL.out]; rfl) HV.out (by rw [HRS.out, HXL.out]; simp; omega) (by rw [HXL.out]; intro v hv; simp at hv; rcases hv with rfl | rfl | rfl <;> rfl)
  have HA2 := Lib.hid (fun j (hj : j < 3) => show cur2[i * 3 + j]? = some (.int .i64 (x j)) by
    rw [ha2 j (by rw [HXL.out]; exact hj), HXL.out]
    match j, hj with
    | 0, _ => rfl
    | 1, _ => rfl
    | 2, _ => rfl)
  have HB2 := Lib.hid (fun j (hj : j < i * 3) => hb2 j (.inl hj))
  have HX2 := Lib.hid hx2
  have HS2 := Lib.hid hs2
  have HG2 := Lib.hid (grown_moreIT GX1.out hg2 (fun k e => by cases e; omega))
  have BG2 := Lib.hid (BG1.out.grown hg2 (fun e => by have := Option.some.inj e; have := ZG.out; omega))
  have HL := Lib.hid (recs_drop_length F 3 n i)
  have HD := Lib.hid (fun j (hj : j < (n - i) * 3) => recs_drop F (k := 3) (n := n) (i := i) hj)
  have HONE := Lib.hid (fun v (hv : v ∈ (recs F 3 n).drop (i * 3)) => recs_one v (List.mem_of_mem_drop hv))
  have HS := Lib.hid (fun j v (hj : ((recs F 3 n).drop (i * 3))[j]? = some v) => show W2.drew.cell? ((⟨g, i * 3, none⟩ : Addr).add j) = some v by
    have hlt : j < (n - i) * 3 := by
      rcases Nat.lt_or_ge j ((n - i) * 3) with h | h
      · exact h
      · rw [List.getElem?_eq_none (by rw [HL.out]; omega)] at hj; cases hj
    rw [HD.out j hlt] at hj
    cases hj
    rw [Addr.add_lit, BG2.out.drew.cell, HC.out _ (by omega), show (i * 3 + j) / 3 = i + j / 3 by omega, show (i * 3 + j) % 3 = j % 3 by omega])
  have HF2 := Lib.hid (show (i + 1) * 3 + ((recs F 3 n).drop (i * 3)).length ≤ cur2.size by rw [HL.out, HS2.out, HRS.out]; omega)
  have HM := Lib.hid (show n - i = Nat.min (n - i) (n - i) by show _ = min _ _; omega)
  generalize hLe : (recs F 3 n).drop (i * 3) = L at HL HD HONE HS HF2
  have hz2 : ¬ ((i : Int) = (n : Int)) := by omega
  have hz2' : ((i : Int) == (n : Int)) = false := by simp; omega
  have hz3 : decide ((c : Int) < (n : Int) + 1) = true := by simp; omega
  have hin : i ≤ n := by omega
  have hb2' : ¬ (G = i + 1) := by omega
  have hb4 : ¬ (G = i) := by omega
  have hb5 : ¬ (c = i) := by omega
  have hkk : (n : Int) + 1 - (i : Int) = ((n + 1 - i : Nat) : Int) := by omega
  have hw1 : IntKind.i64.wrap ((i : Int) + 1) = ((i + 1 : Nat) : Int) := by rw [IntKind.wrap_i64]; omega
  have hw2 : IntKind.i64.wrap ((n : Int) + 1) = ((n + 1 : Nat) : Int) := by rw [IntKind.wrap_i64]; omega
  generalize hsz : w.heap.size = sz at *
  clear ho hx hb hi0 hz0 hzs hzb hold hROW hW1 hXL ha2 hb2 hx2 hs2 hg2 hLe hcs
  go_enter Try.func67, Try.ntmps67
  go_wp2_with (at_builtin; refine Lib.wpList_append_run _ rfl (.tmp 34) (.tmp 39) 25 3 rfl _ _ rfl rfl _ _ hrz ?_)
  go_region_held_law (fun _ => True) (trivial) (first | (refine step_copy_box W2.drew (by rfl) (.tmp 50) (.tmp 53) 25 25 (by rfl) 65 3 Try.underlying25 HSZ.out HX2.out.drew ((i + 1) * 3) (n - i) (G - (i + 1)) ⟨g, i * 3, none⟩ (n - i) (c - i) (n - i) L HM.out HL.out HS.out HF2.out HONE.out (by rfl) (by rfl) ?_; intro W3 cur3 hx3 hs3 hg3 ha3 hb3))
  all_goals (
    have HA3 := Lib.hid (fun j (hj : j < (n - i) * 3) => show cur3[(i + 1) * 3 + j]? = some (.int .i64 (F (i + j / 3) (j % 3))) by rw [ha3 j (by rw [HL.out]; exact hj)]; exact HD.out j hj)
    have HB3 := Lib.hid (fun j (hj : j < (i + 1) * 3) => hb3 j (.inl hj))
    have HR := Lib.hid (own_again (F := insF F i x) (base := base) (n := n + 1) (cap := G) (k := 3) (by omega) hx3 hG1 hG2 (by rw [hs3, HS2.out, HRS.out]) (by decide) (ins_cells3g hi HR0.out HA2.out HB2.out HA3.out HB3.out))
    have HG3 := Lib.hid (show w.grownBy W3 (some g) from grown_moreIT (grown_drew HG2.out) hg3 (fun k e => by cases e; omega))
    clear hx3 hs3 hg3 ha3 hb3
    go_wp2
    go_ret
    exact ⟨_, rfl, HR.out, HG3.out⟩)
theorem insT_any (base : Nat) (A : Option Addr) (n c i : Nat) (F : Nat → Nat → Int) (vb : Nat) (x : Nat → Int) (w : World) (hn : n ≤ 1048576) (hi : i ≤ n) (hbase : base ≤ w.heap.size) (ho : w.ownsRow base 65 3 (.slice A n c) n (recs F 3 n)) (hx : Box w vb 65 #[.int .i64 (x 0), .int .i64 (x 1), .int .i64 (x 2)]) (hne : (Value.slice A n c).ownBlock ≠ some vb) :
    Calls Try.prog 67 #[.slice A n c, .int .i64 i, .slice (some ⟨vb, 0, none⟩) 1 1] w (InsQT base n i F x (Value.slice A n c).ownBlock w) := by
  rcases Nat.lt_or_ge i n with h | h
  · rcases own_cases ho with ⟨e, h0⟩ | ⟨g, cap, cur, e, _⟩
    · omega
    · cases e
      have hne' : vb ≠ g := fun e => hne (by rw [e]; rfl)
      rcases Nat.lt_or_ge c (n + 1) with h1 | h1
      · exact insT_grow base g n c i F vb x w hn hbase h h1 ho hx
      · exact insT_shift base g n c i F vb x w h h1 ho hx hne'
  · obtain rfl : i = n := by omega
    exact insT_end base A i c F vb x w hn hbase ho (.inr ⟨vb, 0, rfl, hx.lt, fun a ha j hj => by
      obtain rfl : a = 0 := by omega
      rw [hx.cell]
      have : j = 0 ∨ j = 1 ∨ j = 2 := by omega
      rcases this with rfl | rfl | rfl <;> rfl⟩)
end Go.Proofs.Ytogoddbkamgndaa
