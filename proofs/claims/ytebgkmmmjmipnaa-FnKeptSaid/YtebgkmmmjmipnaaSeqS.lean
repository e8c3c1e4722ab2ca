/- Contract of the reference's OrderSequence. -/
import Derived.Test.YtebgkmmmjmipnaaSeq
import Derived.Deep.RegionHeldLaw
namespace Go.Proofs.Ytebgkmmmjmipnaa
open Go.RowKit

/-- The numbers of the orders gathered so far. -/
def gotD (F : Nat → Nat → Int) (t k : Int) (m : Nat) : Nat → Int := fun i => (seqL F t k m).getD i 0
theorem gotD_snoc {F : Nat → Nat → Int} {t k : Int} {m : Nat} (h : seqL F t k (m + 1) = seqL F t k m ++ [(m : Int)]) : (∀ i, i < (seqL F t k m).length → gotD F t k (m + 1) i = gotD F t k m i) ∧ gotD F t k (m + 1) (seqL F t k m).length = m ∧ (seqL F t k (m + 1)).length = (seqL F t k m).length + 1 := by
  refine ⟨fun i hi => ?_, ?_, by rw [h]; simp⟩
  · simp only [gotD, h, List.getD_eq_getElem?_getD, List.getElem?_append_left hi]
  · simp [gotD, h, List.getD_eq_getElem?_getD]
theorem seqS_step {K : Int → Int} {F : Nat → Nat → Int} {t k : Int} {m : Nat} (h : seqL F t k (m + 1) = seqL F t k m ++ [(m : Int)]) {i : Nat} (hi : i < (seqL F t k m).length + 1) :
    putF (sortF K (gotD F t k m) (seqL F t k m).length) m (seqL F t k m).length (posF K (sortF K (gotD F t k m) (seqL F t k m).length) m (seqL F t k m).length) i = sortF K (gotD F t k (m + 1)) (seqL F t k (m + 1)).length i := by
  obtain ⟨h1, h2, h3⟩ := gotD_snoc h
  rw [h3]
  have e1 : ∀ j, j < (seqL F t k m).length → sortF K (gotD F t k (m + 1)) (seqL F t k m).length j = sortF K (gotD F t k m) (seqL F t k m).length j := sortF_congr h1
  have e2 : sortF K (gotD F t k (m + 1)) (seqL F t k m).length (seqL F t k m).length = m := by rw [sortF_far K _ _ _ (Nat.le_refl _), h2]
  show _ = putF (sortF K (gotD F t k (m + 1)) (seqL F t k m).length) (sortF K (gotD F t k (m + 1)) (seqL F t k m).length (seqL F t k m).length) (seqL F t k m).length (posF K (sortF K (gotD F t k (m + 1)) (seqL F t k m).length) (sortF K (gotD F t k (m + 1)) (seqL F t k m).length (seqL F t k m).length) (seqL F t k m).length) i
  rw [e2, posF_congr e1]
  have hp := posF_le K (sortF K (gotD F t k m) (seqL F t k m).length) m (seqL F t k m).length
  unfold putF
  split
  · exact (e1 i (by omega)).symm
  · split
    · rfl
    · rw [if_pos (by omega), if_pos (by omega)]
      exact (e1 (i - 1) (by omega)).symm
/-- The three parts of the new row: those ahead, the new one, those behind. -/
theorem parts_eq (P : Nat → Int) (x : Int) {n p : Nat} (hp : p ≤ n) : ints P p ++ [.int .i64 x] ++ ints (fun i => P (p + i)) (n - p) = ints (putF P x n p) (n + 1) := by
  apply List.ext_getElem?
  intro i
  by_cases h1 : i < p
  · rw [List.append_assoc, List.getElem?_append_left (by simp [ints_length]; omega), ints_get _ h1, ints_get _ (by omega)]
    unfold putF
    rw [if_pos h1]
  · by_cases h2 : i = p
    · subst h2
      rw [List.append_assoc, List.getElem?_append_right (by simp [ints_length]), ints_length, Nat.sub_self, ints_get _ (by omega)]
      unfold putF
      rw [if_neg (by omega), if_pos rfl]
      simp
    · by_cases h3 : i < n + 1
      · rw [List.getElem?_append_right (by simp [ints_length]; omega), ints_get _ h3]
        have e : i - (ints P p ++ [Value.int IntKind.i64 x]).length = i - 1 - p := by simp [ints_length]; omega
        rw [e, ints_get _ (by omega)]
        unfold putF
        rw [if_neg h1, if_neg h2, if_pos (by omega)]
        have e2 : p + (i - 1 - p) = i - 1 := by omega
        rw [e2]
      · rw [List.getElem?_eq_none (by simp [ints_length]; omega), List.getElem?_eq_none (by simp [ints_length]; omega)]
/-- The built-in append of numbers from wherever in memory to a row of the call's own, at a step of a region that draws its order. -/
theorem step_append_at {w : World} {ops : Array Oper} {o : Oper} {a : Act} {K : Act → World → Prop} {Q : Exit → Act → World → Prop} {E : Prop} (hgd : o.guard = none) (s x : Operand)
    (ho : o.op = .call { callee := .builtin .append, args := #[s, x], argTypes := #[29, 29] })
    (base : Nat) (v : Value) (n0 : Nat) (xs : List Value) (hown : w.ownsRow base 3 1 v n0 xs) (b off m c : Nat) (F : Nat → Int) (hr : Row w .i64 (some ⟨b, off, none⟩) m F) (hm : n0 + m ≤ 1048576) (hbase : base ≤ w.heap.size) (hs : a.eval s = v) (hx : a.eval x = .slice (some ⟨b, off, none⟩) m c)
    (h : ∀ v' w', w'.ownsRow base 3 1 v' (n0 + m) (xs ++ ints F m) → w.grownBy w' v.ownBlock → K (a.put o.dst v') w') :
    if Region.wanted o (yielded ops a.tmps) = true then Oper.wp Try.prog o a w K Q else E := by
  have hw : Region.wanted o (yielded ops a.tmps) = true := by simp [Region.wanted, hgd]
  rw [if_pos hw]
  obtain ⟨i0, hi0, iz0, iz1, iz2⟩ := info_parts int_inf
  obtain ⟨v', w', hrun, h2, h3, _, _⟩ := run_append_own_at (P := Try.prog) w base 29 o.type 3 i0 (.int .i64 0) 1 8 Try.underlying29 hi0 iz0 iz1 iz2 rfl (by decide) v n0 xs hown ⟨b, off, none⟩ m c (ints F m) (by simp [ints_length]) (by
    intro j u hj
    have hjn : j < m := by
      rcases Nat.lt_or_ge j m with h | h
      · exact h
      · rw [List.getElem?_eq_none (by simp [ints_length]; omega)] at hj
        cases hj
    rw [ints_get _ hjn] at hj
    cases hj
    rcases hr with h | ⟨b', off', e, hb, hc⟩
    · omega
    · cases e
      have := hc j hjn
      simp only [Addr.add]
      split
      · rename_i h0; subst h0; simpa using this
      · exact this) (by
    intro u hu
    simp only [ints, List.mem_map] at hu
    obtain ⟨i, _, rfl⟩ := hu
    rfl) (by unfold maxLen; omega) (by omega) hbase
  have hk := h v' w' h2 h3
  unfold Oper.wp execOp
  simp only [ho, resolve, invoke, builtin, Sem.run_bind, Sem.run_pure, Result.andThen_ok, List.map_toArray, List.map_cons, List.map_nil, hs, hx, hrun]
  exact hk
theorem own_ext {w : World} {base : Nat} {e : TypeId} {v : Value} {n : Nat} {xs ys : List Value} (h : w.ownsRow base e 1 v n xs) (hxy : xs = ys) : w.ownsRow base e 1 v n ys := by subst hxy; exact h
theorem own_empty_at {w : World} {base g : Nat} {e : TypeId} (hg : g = w.heap.size) (hb : base ≤ w.heap.size) : (w.alloc (.cells #[] e)).ownsRow base e 1 (.slice (some ⟨g, 0, none⟩) 0 0) 0 [] := by
  subst hg; exact own_empty w base e hb
theorem step_append_src {w : World} {ops : Array Oper} {o : Oper} {a : Act} {K : Act → World → Prop} {Q : Exit → Act → World → Prop} {E : Prop} (hgd : o.guard = none) (s x : Operand)
    (ho : o.op = .call { callee := .builtin .append, args := #[s, x], argTypes := #[29, 29] })
    (base : Nat) (v : Value) (n0 : Nat) (xs : List Value) (hown : w.ownsRow base 3 1 v n0 xs) (A : Option Addr) (m c : Nat) (F : Nat → Int) (hA : ∃ b off, A = some ⟨b, off, none⟩) (hr : Row w .i64 A m F) (hm : n0 + m ≤ 1048576) (hbase : base ≤ w.heap.size) (hs : a.eval s = v) (hx : a.eval x = .slice A m c)
    (h : ∀ v' w', w'.ownsRow base 3 1 v' (n0 + m) (xs ++ ints F m) → w.grownBy w' v.ownBlock → K (a.put o.dst v') w') :
    if Region.wanted o (yielded ops a.tmps) = true then Oper.wp Try.prog o a w K Q else E := by
  obtain ⟨b, off, rfl⟩ := hA
  exact step_append_at hgd s x ho base v n0 xs hown b off m c F hr hm hbase hs hx h
theorem row_take {w : World} {k : IntKind} {A : Option Addr} {n m : Nat} {F : Nat → Int} (h : Row w k A n F) (hm : m ≤ n) : Row w k A m F := by
  rcases h with h | ⟨b, off, e, hb, hc⟩
  · exact .inl (by omega)
  · exact .inr ⟨b, off, e, hb, fun i hi => hc i (by omega)⟩
theorem row_part {w : World} {k : IntKind} {g n c p : Nat} {F : Nat → Int} (h : Row w k (some ⟨g, 0, none⟩) n F) (hc : n ≤ c) : Row w k (if c = p then some ⟨g, 0, none⟩ else some ⟨g, p, none⟩) (n - p) (fun i => F (p + i)) := by
  by_cases hp : n ≤ p
  · exact .inl (by omega)
  · rw [if_neg (by omega)]
    rcases h with h | ⟨b, off, e, hb, hc⟩
    · exact .inl (by omega)
    · cases e
      exact .inr ⟨g, p, rfl, hb, fun i hi => by have := hc (p + i) (by omega); rwa [Nat.zero_add] at this⟩
theorem part_some {g c p : Nat} : ∃ b off, (if c = p then some (⟨g, 0, none⟩ : Addr) else some ⟨g, p, none⟩) = some ⟨b, off, none⟩ := by
  split
  · exact ⟨_, _, rfl⟩
  · exact ⟨_, _, rfl⟩
theorem row_one {w : World} {g : Nat} {t : TypeId} {x : Int} (h : Box w g t #[.int .i64 x]) : Row w .i64 (some ⟨g, 0, none⟩) 1 (fun _ => x) :=
  .inr ⟨g, 0, rfl, h.lt, fun i hi => by (obtain rfl : i = 0 := (by omega)); simpa using h.cell 0⟩
theorem own_head {w : World} {base : Nat} {e : TypeId} {v : Value} {n : Nat} {xs : List Value} (h : w.ownsRow base e 1 v n xs) (hn : 0 < n) : ∃ g c, v = .slice (some ⟨g, 0, none⟩) n c := by
  rcases h.2 with ⟨_, h2⟩ | ⟨g, cap, cur, hv, _⟩
  · omega
  · exact ⟨g, cap, hv⟩
theorem own_cap {w : World} {base : Nat} {e : TypeId} {g n c : Nat} {xs : List Value} (h : w.ownsRow base e 1 (.slice (some ⟨g, 0, none⟩) n c) n xs) : g < w.heap.size ∧ n ≤ c := by
  refine ⟨(h.lt g rfl).2, ?_⟩
  rcases h.2 with ⟨h1, _⟩ | ⟨g', cap, cur, hv, hg, hh, hnc, hcm, hcs, hx⟩
  · cases h1
  · cases hv; omega
theorem seq_parts {P : Nat → Int} {x : Int} {len j : Nat} {G : Nat → Int} (hj : j ≤ len) (h : ∀ i, i < len + 1 → putF P x len j i = G i) : (ints P j ++ ints (fun _ => x) 1) ++ ints (fun i => P (j + i)) (len - j) = ints G (len + 1) := by
  have e : ints (fun _ => x) 1 = [.int .i64 x] := rfl
  rw [e, parts_eq P x hj]
  exact ints_congr h
set_option maxRecDepth 100000 in
set_option maxHeartbeats 8000000 in
theorem sseq_any (A : Option Addr) (n cap : Nat) (F : Nat → Nat → Int) (t k : Int) (w : World) (hn : n ≤ 1048576) (hr : Recs w 3 A n F) :
    Calls Try.prog 22 #[.slice A n cap, .int .i64 t, .int .i64 k] w (IntsQ (seqN F n t k) (seqG F n t k) w) := by
  have HR := Lib.hid hr
  clear hr
  rcases Bool.eq_false_or_eq_true (ordersB F n) with s1 | s1
  · have HN := Lib.hid (show seqN F n t k = (seqL F t k n).length by simp [seqN, s1])
    have h10 := (ordersB_true s1).2
    have HS := Lib.hid s1
    rw [HN.out]
    clear s1
    go_enter Try.func22, Try.ntmps22
    go_wp2_with fail
    go_loopw [7, 8] (fun v i wr => ∃ m : Nat, m ≤ n ∧ i = .int .i64 m ∧ wr.ownsRow w.heap.size 3 1 v (seqL F t k m).length (ints (sortF (effK F) (gotD F t k m) (seqL F t k m).length) (seqL F t k m).length) ∧ (∃ g c, v = .slice (some ⟨g, 0, none⟩) (seqL F t k m).length c) ∧ Below w.heap.size w wr) (fun _ i _ => n - (intOf i).toNat)
    case atStart => exact ⟨0, Nat.zero_le _, rfl, own_empty _ _ _ (Nat.le_refl _), ⟨_, _, rfl⟩, (Below.refl _ _).alloc (Nat.le_refl _) _⟩
    case round =>
      obtain ⟨m, hm, rfl, hown, ⟨g, c1, rfl⟩, hbw⟩ := hrel
      by_cases hlt : m < n
      · have hs := Lib.hid (fun w1 (h : Below w.heap.size w w1) => by have := sordersOk_any A n cap F w1 hn (HR.out.kept h); rw [HS.out] at this; exact this : ∀ w1, Below w.heap.size w w1 → Calls Try.prog 12 #[.slice A n cap] w1 fun e w' => e = .returned (.bool true) ∧ Below w1.heap.size w1 w')
        obtain ⟨b, off, e, hb, c0, c1, c2⟩ := HR.out.at3 hlt
        have hmi : (m : Int) < (n : Int) := by omega
        have hm0 : (0 : Int) ≤ (m : Int) := by omega
        have hbs := hbw.size
        have hl := seqL_le F t k m
        have HB := Lib.hid hbw
        have HO := Lib.hid hown
        have HBB := Lib.hid hb
        have C0 := Lib.hid c0
        have C1 := Lib.hid c1
        have HE := Lib.hid e
        clear hbw hb c0 c1 c2 e hown
        obtain ⟨wo, rfl⟩ : ∃ wo : World, wo = wr := ⟨_, rfl⟩
        go_wp2_with fail
        with_reducible refine (hs.out _ HB.out).mono ?_
        rintro e w1 ⟨rfl, hb1⟩
        have hbw := HB.out.trans (hb1.mono hbs)
        have hb := HBB.out
        have d0 := (hbw.cell (p := ⟨b, off + m * 3, none⟩) hb).trans C0.out
        have d1 := (hbw.cell (p := ⟨b, off + m * 3 + 1, none⟩) hb).trans C1.out
        obtain rfl := HE.out
        have HB1 := Lib.hid hbw
        have HO1 := Lib.hid (own_below HO.out hb1)
        have z1 := hbw.size
        clear hbw hb1 hs HB HO
        rcases Bool.eq_false_or_eq_true (decide (t < F m 0)) with k1 | k1
        · have HM := Lib.hid (show seqL F t k (m + 1) = seqL F t k m by simp only [seqL]; rw [if_neg (fun h => by have := of_decide_eq_true k1; omega)])
          go_wp2; go_roundw; (case rel => exact ⟨m + 1, by omega, by go_num, (by unfold gotD; rw [HM.out]; exact HO1.out), ⟨g, c1, by rw [HM.out]⟩, HB1.out⟩); (case measure => simp [intOf]; omega)
        · rcases Bool.eq_false_or_eq_true (decide (k < F m 1)) with k2 | k2
          · have HM := Lib.hid (show seqL F t k (m + 1) = seqL F t k m by simp only [seqL]; rw [if_neg (fun h => by have := of_decide_eq_true k2; omega)])
            go_wp2; go_roundw; (case rel => exact ⟨m + 1, by omega, by go_num, (by unfold gotD; rw [HM.out]; exact HO1.out), ⟨g, c1, by rw [HM.out]⟩, HB1.out⟩); (case measure => simp [intOf]; omega)
          · have HM := Lib.hid (show seqL F t k (m + 1) = seqL F t k m ++ [(m : Int)] by simp only [seqL]; rw [if_pos ⟨by have := of_decide_eq_false k1; omega, by have := of_decide_eq_false k2; omega⟩])
            have HP := Lib.hid (fun i (hi : i < (seqL F t k m).length) => sortF_mem (K := effK F) (D := gotD F t k m) (p := fun x => 0 ≤ x ∧ x < n) (m := (seqL F t k m).length) (fun i hi => by
              have h1 := seqL_mem F t k m ((seqL F t k m).getD i 0) (by rw [List.getD_eq_getElem?_getD, List.getElem?_eq_getElem hi]; exact List.getElem_mem _)
              exact ⟨h1.1, Int.lt_trans h1.2 (by omega)⟩) (seqL F t k m).length (Nat.le_refl _) i hi)
            have HST := Lib.hid (fun i hi => seqS_step (K := effK F) HM.out (i := i) hi)
            have HLN := Lib.hid (gotD_snoc HM.out).2.2
            generalize hPe : sortF (effK F) (gotD F t k m) (seqL F t k m).length = P at HO1 HP HST
            generalize (seqL F t k m).length = len at HO1 HP HST HLN hl
            clear hPe
            go_wp2_with fail
            go_loopw [9] (fun s ws => ∃ (j q : Nat), j ≤ len ∧ s = .int .i64 j ∧ ws = w1.drewN q ∧ Hid (posF (effK F) P m len = posF (effK F) P m j)) (fun s _ => (intOf s).toNat)
            case atStart => exact ⟨len, 0, Nat.le_refl _, rfl, rfl, rfl⟩
            case round =>
              obtain ⟨j, q, hj, rfl, rfl, hp⟩ := hrel
              have HP2 := Lib.hid hp
              by_cases hj0 : j = 0
              · have hz2 : decide (0 < j) = false := by simp; omega
                have HJ := Lib.hid (show posF (effK F) P m len = j by rw [hp.out, hj0]; rfl)
                clear hj0 hp HP2
                go_wp2_with fail
                go_big_quiet (fail)
                go_wp2_with fail
                have HOW := Lib.hid (own_below HO1.out (below_drewN (below_drewN (Below.refl _ _) q) nq)); have HBW := Lib.hid (below_drewN (below_drewN HB1.out q) nq); have z3 : w.heap.size ≤ ((w1.drewN q).drewN nq).heap.size := z1; clear d0 d1 z1 HO1 HB1 HR C0 C1 HBB; generalize (w1.drewN q).drewN nq = W at *; have RP := Lib.hid (own_rows HOW.out); have hgW := (own_cap HOW.out).1; have HG := Lib.hid hgW; have hc1 := (own_cap HOW.out).2; have HC := Lib.hid hc1; have hjc : j ≤ c1 := Nat.le_trans hj hc1; have HST2 := Lib.hid (fun i (hi : i < len + 1) => (by have := HST.out i hi; rw [HJ.out] at this; exact this : putF P (m : Int) len j i = sortF (effK F) (gotD F t k (m + 1)) (seqL F t k (m + 1)).length i)); have HEQ := Lib.hid (show j + 1 + (len - j) = len + 1 by omega); go_region_held_law (fun _ => True) (trivial) (first | (refine step_append_src (w := (W.alloc (.cells #[] 3)).drew) (by rfl) (.tmp 60) (.tmp 63) (by rfl) W.heap.size (.slice (some ⟨W.heap.size, 0, none⟩) 0 0) 0 [] ((own_empty W _ _ (Nat.le_refl _)).drew) (some ⟨g, 0, none⟩) j c1 P ⟨g, 0, rfl⟩ (row_take ((Row.alloc RP.out _).drew) hj) (by omega) (by first | (simp; done) | (simp; omega)) (by rfl) (by rfl) ?_; intro v4 w4 o4 hg4; rw [Nat.zero_add, List.nil_append] at o4; have R4 := Lib.hid (Row.moved ((Row.alloc RP.out _).drew) hg4 (by intro b' off' e'; cases e'; first | (simp [Value.ownBlock]; done) | (simp [Value.ownBlock]; omega))); have B4 := Lib.hid (below_grown (w0 := w) (B := w.heap.size) (w := (W.alloc (.cells #[] 3)).drew) ((Below.drew (Below.alloc HBW.out (by omega) _))) hg4 (by first | omega | (simp; done) | (simp; omega)) (by intro b' hb'; simp [Value.ownBlock] at hb'; omega)); have O4 := Lib.hid o4; have s4 : W.heap.size ≤ w4.heap.size := (by have := hg4.size; first | omega | (simp at this; omega)); clear o4 hg4) | (refine step_append_src (w := ((W.alloc (.cells #[] 3)).alloc (.cells #[.int .i64 m] 3)).drew) (by rfl) (.tmp 60) (.tmp 63) (by rfl) W.heap.size (.slice (some ⟨W.heap.size, 0, none⟩) 0 0) 0 [] (((own_empty W _ _ (Nat.le_refl _)).alloc _).drew) (some ⟨g, 0, none⟩) j c1 P ⟨g, 0, rfl⟩ (row_take ((Row.alloc (Row.alloc RP.out _) _).drew) hj) (by omega) (by first | (simp; done) | (simp; omega)) (by rfl) (by rfl) ?_; intro v4 w4 o4 hg4; rw [Nat.zero_add, List.nil_append] at o4; have R4 := Lib.hid (Row.moved ((Row.alloc (Row.alloc RP.out _) _).drew) hg4 (by intro b' off' e'; cases e'; first | (simp [Value.ownBlock]; done) | (simp [Value.ownBlock]; omega))); have B4 := Lib.hid (below_grown (w0 := w) (B := w.heap.size) (w := ((W.alloc (.cells #[] 3)).alloc (.cells #[.int .i64 m] 3)).drew) ((Below.drew (Below.alloc (Below.alloc HBW.out (by omega) _) (by first | omega | (simp; done) | (simp; omega)) _))) hg4 (by first | omega | (simp; done) | (simp; omega)) (by intro b' hb'; simp [Value.ownBlock] at hb'; omega)); have O4 := Lib.hid o4; have s4 : W.heap.size ≤ w4.heap.size := (by have := hg4.size; first | omega | (simp at this; omega)); have X4 := Lib.hid (Box.grown (w := ((W.alloc (.cells #[] 3)).alloc (.cells #[.int .i64 m] 3)).drew) (g := W.heap.size + 1) (t := 3) (cs := #[.int .i64 m]) ((Box.made_at (by first | (simp; done) | rfl)).drew) hg4 (by simp [Value.ownBlock])); have l4 : W.heap.size + 1 < w4.heap.size := X4.out.lt; have D4 := Lib.hid (show W.heap.size + 1 = W.heap.size + 1 from rfl); clear o4 hg4) | (refine step_append_src (w := ((W.alloc (.cells #[.int .i64 m] 3)).alloc (.cells #[] 3)).drew) (by rfl) (.tmp 60) (.tmp 63) (by rfl) W.heap.size (.slice (some ⟨W.heap.size + 1, 0, none⟩) 0 0) 0 [] ((own_empty_at (by simp) (by first | (simp; done) | rfl)).drew) (some ⟨g, 0, none⟩) j c1 P ⟨g, 0, rfl⟩ (row_take ((Row.alloc (Row.alloc RP.out _) _).drew) hj) (by omega) (by first | (simp; done) | (simp; omega)) (by rfl) (by rfl) ?_; intro v4 w4 o4 hg4; rw [Nat.zero_add, List.nil_append] at o4; have R4 := Lib.hid (Row.moved ((Row.alloc (Row.alloc RP.out _) _).drew) hg4 (by intro b' off' e'; cases e'; first | (simp [Value.ownBlock]; done) | (simp [Value.ownBlock]; omega))); have B4 := Lib.hid (below_grown (w0 := w) (B := w.heap.size) (w := ((W.alloc (.cells #[.int .i64 m] 3)).alloc (.cells #[] 3)).drew) ((Below.drew (Below.alloc (Below.alloc HBW.out (by omega) _) (by first | omega | (simp; done) | (simp; omega)) _))) hg4 (by first | omega | (simp; done) | (simp; omega)) (by intro b' hb'; simp [Value.ownBlock] at hb'; omega)); have O4 := Lib.hid o4; have s4 : W.heap.size ≤ w4.heap.size := (by have := hg4.size; first | omega | (simp at this; omega)); have X4 := Lib.hid (Box.grown (w := ((W.alloc (.cells #[.int .i64 m] 3)).alloc (.cells #[] 3)).drew) (g := W.heap.size) (t := 3) (cs := #[.int .i64 m]) ((Box.alloc (Box.made_at rfl) _).drew) hg4 (by simp [Value.ownBlock])); have l4 : W.heap.size < w4.heap.size := X4.out.lt; have D4 := Lib.hid (show W.heap.size = W.heap.size from rfl); clear o4 hg4) | (refine step_append_src (w := (w4.alloc (.cells #[.int .i64 m] 3)).drew) (by rfl) (.tmp 64) (.tmp 66) (by rfl) W.heap.size v4 j (ints P j) ((O4.out.alloc _).drew) (some ⟨w4.heap.size, 0, none⟩) 1 1 (fun _ => (m : Int)) ⟨_, _, rfl⟩ (row_one (t := 3) ((Box.made_at rfl).drew)) (by omega) (by first | omega | (simp; done) | (simp; omega)) (by rfl) (by rfl) ?_; intro v7 w7 o7 hg7; have R7 := Lib.hid (Row.moved ((Row.alloc R4.out _).drew) hg7 (by intro b' off' e'; cases e'; exact box_apart_lt HG.out (own_lo O4.out))); have B7 := Lib.hid (below_grown (w0 := w) (B := w.heap.size) (w := (w4.alloc (.cells #[.int .i64 m] 3)).drew) (Below.drew (Below.alloc B4.out (by omega) _)) hg7 (by first | omega | (simp; done) | (simp; omega)) (fun b' hb' => Nat.le_trans z3 (own_lo O4.out b' hb'))); have O7 := Lib.hid o7; have s7 : W.heap.size ≤ w7.heap.size := (by have := hg7.size; first | omega | (simp at this; omega)); clear o7 hg7) | (refine step_append_src (w := w4) (by rfl) (.tmp 64) (.tmp 66) (by rfl) W.heap.size v4 j (ints P j) (O4.out) (some ⟨W.heap.size + 1, 0, none⟩) 1 1 (fun _ => (m : Int)) ⟨_, _, rfl⟩ (row_one (t := 3) (X4.out)) (by omega) (by first | omega | (simp; done) | (simp; omega)) (by rfl) (by rfl) ?_; intro v7 w7 o7 hg7; have R7 := Lib.hid (Row.moved (R4.out) hg7 (by intro b' off' e'; cases e'; exact box_apart_lt HG.out (own_lo O4.out))); have B7 := Lib.hid (below_grown (w0 := w) (B := w.heap.size) (w := w4) (B4.out) hg7 (by first | omega | (simp; done) | (simp; omega)) (fun b' hb' => Nat.le_trans z3 (own_lo O4.out b' hb'))); have O7 := Lib.hid o7; have s7 : W.heap.size ≤ w7.heap.size := (by have := hg7.size; first | omega | (simp at this; omega)); clear o7 hg7) | (refine step_append_src (w := w4) (by rfl) (.tmp 64) (.tmp 66) (by rfl) W.heap.size v4 j (ints P j) (O4.out) (some ⟨W.heap.size, 0, none⟩) 1 1 (fun _ => (m : Int)) ⟨_, _, rfl⟩ (row_one (t := 3) (X4.out)) (by omega) (by first | omega | (simp; done) | (simp; omega)) (by rfl) (by rfl) ?_; intro v7 w7 o7 hg7; have R7 := Lib.hid (Row.moved (R4.out) hg7 (by intro b' off' e'; cases e'; exact box_apart_lt HG.out (own_lo O4.out))); have B7 := Lib.hid (below_grown (w0 := w) (B := w.heap.size) (w := w4) (B4.out) hg7 (by first | omega | (simp; done) | (simp; omega)) (fun b' hb' => Nat.le_trans z3 (own_lo O4.out b' hb'))); have O7 := Lib.hid o7; have s7 : W.heap.size ≤ w7.heap.size := (by have := hg7.size; first | omega | (simp at this; omega)); clear o7 hg7) | (refine step_append_src (w := w4.drew) (by rfl) (.tmp 64) (.tmp 66) (by rfl) W.heap.size v4 j (ints P j) (O4.out) (some ⟨W.heap.size + 1, 0, none⟩) 1 1 (fun _ => (m : Int)) ⟨_, _, rfl⟩ (row_one (t := 3) (X4.out)) (by omega) (by first | omega | (simp; done) | (simp; omega)) (by rfl) (by rfl) ?_; intro v7 w7 o7 hg7; have R7 := Lib.hid (Row.moved (R4.out) hg7 (by intro b' off' e'; cases e'; exact box_apart_lt HG.out (own_lo O4.out))); have B7 := Lib.hid (below_grown (w0 := w) (B := w.heap.size) (w := w4.drew) (B4.out) hg7 (by first | omega | (simp; done) | (simp; omega)) (fun b' hb' => Nat.le_trans z3 (own_lo O4.out b' hb'))); have O7 := Lib.hid o7; have s7 : W.heap.size ≤ w7.heap.size := (by have := hg7.size; first | omega | (simp at this; omega)); clear o7 hg7) | (refine step_append_src (w := w4.drew) (by rfl) (.tmp 64) (.tmp 66) (by rfl) W.heap.size v4 j (ints P j) (O4.out) (some ⟨W.heap.size, 0, none⟩) 1 1 (fun _ => (m : Int)) ⟨_, _, rfl⟩ (row_one (t := 3) (X4.out)) (by omega) (by first | omega | (simp; done) | (simp; omega)) (by rfl) (by rfl) ?_; intro v7 w7 o7 hg7; have R7 := Lib.hid (Row.moved (R4.out) hg7 (by intro b' off' e'; cases e'; exact box_apart_lt HG.out (own_lo O4.out))); have B7 := Lib.hid (below_grown (w0 := w) (B := w.heap.size) (w := w4.drew) (B4.out) hg7 (by first | omega | (simp; done) | (simp; omega)) (fun b' hb' => Nat.le_trans z3 (own_lo O4.out b' hb'))); have O7 := Lib.hid o7; have s7 : W.heap.size ≤ w7.heap.size := (by have := hg7.size; first | omega | (simp at this; omega)); clear o7 hg7) | (refine step_append_src (w := w4.alloc (.cells #[.int .i64 m] 3)) (by rfl) (.tmp 64) (.tmp 66) (by rfl) W.heap.size v4 j (ints P j) ((O4.out.alloc _)) (some ⟨w4.heap.size, 0, none⟩) 1 1 (fun _ => (m : Int)) ⟨_, _, rfl⟩ (row_one (t := 3) ((Box.made_at rfl))) (by omega) (by first | omega | (simp; done) | (simp; omega)) (by rfl) (by rfl) ?_; intro v7 w7 o7 hg7; have R7 := Lib.hid (Row.moved ((Row.alloc R4.out _)) hg7 (by intro b' off' e'; cases e'; exact box_apart_lt HG.out (own_lo O4.out))); have B7 := Lib.hid (below_grown (w0 := w) (B := w.heap.size) (w := w4.alloc (.cells #[.int .i64 m] 3)) (Below.alloc B4.out (by omega) _) hg7 (by first | omega | (simp; done) | (simp; omega)) (fun b' hb' => Nat.le_trans z3 (own_lo O4.out b' hb'))); have O7 := Lib.hid o7; have s7 : W.heap.size ≤ w7.heap.size := (by have := hg7.size; first | omega | (simp at this; omega)); clear o7 hg7) | (refine step_append_src (w := w7.drew) (by rfl) (.tmp 67) (.tmp 70) (by rfl) W.heap.size v7 (j + 1) (ints P j ++ ints (fun _ => (m : Int)) 1) O7.out (if c1 = j then some ⟨g, 0, none⟩ else some ⟨g, j, none⟩) (len - j) (c1 - j) (fun i => P (j + i)) part_some (row_part R7.out HC.out) (by omega) (by first | omega | (simp; done) | (simp; omega)) (by rfl) (by rfl) ?_; intro v9 w9 o9 hg9; rw [HEQ.out, seq_parts hj HST2.out] at o9; obtain ⟨g9, c9, rfl⟩ := own_head o9 (Nat.succ_pos _); have B9 := Lib.hid (below_grown (w0 := w) (B := w.heap.size) (w := w7.drew) B7.out hg9 (by first | omega | (simp; done) | (simp; omega)) (fun b' hb' => Nat.le_trans z3 (own_lo O7.out b' hb'))); have O9 := Lib.hid (own_mono (B' := w.heap.size) o9 z3); clear o9 hg9) | (refine step_append_src (w := w7) (by rfl) (.tmp 67) (.tmp 70) (by rfl) W.heap.size v7 (j + 1) (ints P j ++ ints (fun _ => (m : Int)) 1) O7.out (if c1 = j then some ⟨g, 0, none⟩ else some ⟨g, j, none⟩) (len - j) (c1 - j) (fun i => P (j + i)) part_some (row_part R7.out HC.out) (by omega) (by first | omega | (simp; done) | (simp; omega)) (by rfl) (by rfl) ?_; intro v9 w9 o9 hg9; rw [HEQ.out, seq_parts hj HST2.out] at o9; obtain ⟨g9, c9, rfl⟩ := own_head o9 (Nat.succ_pos _); have B9 := Lib.hid (below_grown (w0 := w) (B := w.heap.size) (w := w7) B7.out hg9 (by first | omega | (simp; done) | (simp; omega)) (fun b' hb' => Nat.le_trans z3 (own_lo O7.out b' hb'))); have O9 := Lib.hid (own_mono (B' := w.heap.size) o9 z3); clear o9 hg9)); all_goals (go_wp2; go_roundw; (case rel => exact ⟨m + 1, by omega, by go_num, (by have o := O9.out; rw [HLN.out] at o ⊢; first | exact o | exact o.drew), ⟨g9, c9, by rw [HLN.out]⟩, (by first | exact B9.out | exact Below.drew B9.out)⟩); (case measure => simp [intOf]; omega))
              · obtain ⟨i, rfl⟩ : ∃ i, j = i + 1 := ⟨j - 1, by omega⟩
                obtain ⟨_, _, e, _, _, hat⟩ := own_row HO1.out
                cases e
                obtain ⟨_, e, _, lg, hcell, _⟩ := hat (by omega)
                cases e
                have hy := HP.out i (by omega)
                obtain ⟨yi, hyi⟩ := Int.eq_ofNat_of_zero_le hy.1
                obtain ⟨b', off', e, _, a0, _, _⟩ := Recs.at3 (HR.out.kept HB1.out) (show yi < n by omega)
                cases e
                have ci : w1.cell? ⟨g, i, none⟩ = some (.int .i64 yi) := by rw [← hyi]; exact hcell i (by omega)
                have cy : w1.cell? ⟨b, off + yi * 3, none⟩ = some (.int .i64 (F yi 0)) := a0
                have hw1 : IntKind.i64.wrap (((i + 1 : Nat) : Int) - 1) = (i : Int) := by rw [IntKind.wrap_i64]; omega
                have hil : (i : Int) < (len : Int) := by omega
                have hi0 : (0 : Int) ≤ (i : Int) := by omega
                have hyl : (yi : Int) < (n : Int) := by omega
                have hy0 : (0 : Int) ≤ (yi : Int) := by omega
                have hz2 : decide (0 < i + 1) = true := by simp
                have hK : effK F m = F m 0 ∧ effK F (P i) = F yi 0 := ⟨by simp [effK], by simp [effK, hyi]⟩
                rcases Bool.eq_false_or_eq_true (decide (F m 0 < F yi 0)) with q1 | q1
                · have HJ := Lib.hid (show posF (effK F) P m len = posF (effK F) P m i by rw [hp.out]; simp only [posF]; rw [hK.1, hK.2, if_pos (of_decide_eq_true q1)])
                  clear hat hcell hp HP2 hy hyi hK a0
                  go_wp2_with fail
                  go_big_quiet (fail)
                  go_wp2
                  go_roundw
                  case rel => exact ⟨i, _, by omega, by go_num, rfl, HJ.out⟩
                  case measure => simp [intOf]
                · have HJ := Lib.hid (show posF (effK F) P m len = i + 1 by rw [hp.out]; simp only [posF]; rw [hK.1, hK.2, if_neg (of_decide_eq_false q1)])
                  clear hat hcell hp HP2 hy hyi hK a0
                  go_wp2_with fail
                  go_big_quiet (fail)
                  go_wp2_with fail
                  clear hw1 hil hi0 hyl hy0 hz2 ci cy q1
                  generalize i + 1 = j at *
                  have HOW := Lib.hid (own_below HO1.out (below_drewN (below_drewN (Below.refl _ _) q) nq)); have HBW := Lib.hid (below_drewN (below_drewN HB1.out q) nq); have z3 : w.heap.size ≤ ((w1.drewN q).drewN nq).heap.size := z1; clear d0 d1 z1 HO1 HB1 HR C0 C1 HBB; generalize (w1.drewN q).drewN nq = W at *; have RP := Lib.hid (own_rows HOW.out); have hgW := (own_cap HOW.out).1; have HG := Lib.hid hgW; have hc1 := (own_cap HOW.out).2; have HC := Lib.hid hc1; have hjc : j ≤ c1 := Nat.le_trans hj hc1; have HST2 := Lib.hid (fun i (hi : i < len + 1) => (by have := HST.out i hi; rw [HJ.out] at this; exact this : putF P (m : Int) len j i = sortF (effK F) (gotD F t k (m + 1)) (seqL F t k (m + 1)).length i)); have HEQ := Lib.hid (show j + 1 + (len - j) = len + 1 by omega); go_region_held_law (fun _ => True) (trivial) (first | (refine step_append_src (w := (W.alloc (.cells #[] 3)).drew) (by rfl) (.tmp 60) (.tmp 63) (by rfl) W.heap.size (.slice (some ⟨W.heap.size, 0, none⟩) 0 0) 0 [] ((own_empty W _ _ (Nat.le_refl _)).drew) (some ⟨g, 0, none⟩) j c1 P ⟨g, 0, rfl⟩ (row_take ((Row.alloc RP.out _).drew) hj) (by omega) (by first | (simp; done) | (simp; omega)) (by rfl) (by rfl) ?_; intro v4 w4 o4 hg4; rw [Nat.zero_add, List.nil_append] at o4; have R4 := Lib.hid (Row.moved ((Row.alloc RP.out _).drew) hg4 (by intro b' off' e'; cases e'; first | (simp [Value.ownBlock]; done) | (simp [Value.ownBlock]; omega))); have B4 := Lib.hid (below_grown (w0 := w) (B := w.heap.size) (w := (W.alloc (.cells #[] 3)).drew) ((Below.drew (Below.alloc HBW.out (by omega) _))) hg4 (by first | omega | (simp; done) | (simp; omega)) (by intro b' hb'; simp [Value.ownBlock] at hb'; omega)); have O4 := Lib.hid o4; have s4 : W.heap.size ≤ w4.heap.size := (by have := hg4.size; first | omega | (simp at this; omega)); clear o4 hg4) | (refine step_append_src (w := ((W.alloc (.cells #[] 3)).alloc (.cells #[.int .i64 m] 3)).drew) (by rfl) (.tmp 60) (.tmp 63) (by rfl) W.heap.size (.slice (some ⟨W.heap.size, 0, none⟩) 0 0) 0 [] (((own_empty W _ _ (Nat.le_refl _)).alloc _).drew) (some ⟨g, 0, none⟩) j c1 P ⟨g, 0, rfl⟩ (row_take ((Row.alloc (Row.alloc RP.out _) _).drew) hj) (by omega) (by first | (simp; done) | (simp; omega)) (by rfl) (by rfl) ?_; intro v4 w4 o4 hg4; rw [Nat.zero_add, List.nil_append] at o4; have R4 := Lib.hid (Row.moved ((Row.alloc (Row.alloc RP.out _) _).drew) hg4 (by intro b' off' e'; cases e'; first | (simp [Value.ownBlock]; done) | (simp [Value.ownBlock]; omega))); have B4 := Lib.hid (below_grown (w0 := w) (B := w.heap.size) (w := ((W.alloc (.cells #[] 3)).alloc (.cells #[.int .i64 m] 3)).drew) ((Below.drew (Below.alloc (Below.alloc HBW.out (by omega) _) (by first | omega | (simp; done) | (simp; omega)) _))) hg4 (by first | omega | (simp; done) | (simp; omega)) (by intro b' hb'; simp [Value.ownBlock] at hb'; omega)); have O4 := Lib.hid o4; have s4 : W.heap.size ≤ w4.heap.size := (by have := hg4.size; first | omega | (simp at this; omega)); have X4 := Lib.hid (Box.grown (w := ((W.alloc (.cells #[] 3)).alloc (.cells #[.int .i64 m] 3)).drew) (g := W.heap.size + 1) (t := 3) (cs := #[.int .i64 m]) ((Box.made_at (by first | (simp; done) | rfl)).drew) hg4 (by simp [Value.ownBlock])); have l4 : W.heap.size + 1 < w4.heap.size := X4.out.lt; have D4 := Lib.hid (show W.heap.size + 1 = W.heap.size + 1 from rfl); clear o4 hg4) | (refine step_append_src (w := ((W.alloc (.cells #[.int .i64 m] 3)).alloc (.cells #[] 3)).drew) (by rfl) (.tmp 60) (.tmp 63) (by rfl) W.heap.size (.slice (some ⟨W.heap.size + 1, 0, none⟩) 0 0) 0 [] ((own_empty_at (by simp) (by first | (simp; done) | rfl)).drew) (some ⟨g, 0, none⟩) j c1 P ⟨g, 0, rfl⟩ (row_take ((Row.alloc (Row.alloc RP.out _) _).drew) hj) (by omega) (by first | (simp; done) | (simp; omega)) (by rfl) (by rfl) ?_; intro v4 w4 o4 hg4; rw [Nat.zero_add, List.nil_append] at o4; have R4 := Lib.hid (Row.moved ((Row.alloc (Row.alloc RP.out _) _).drew) hg4 (by intro b' off' e'; cases e'; first | (simp [Value.ownBlock]; done) | (simp [Value.ownBlock]; omega))); have B4 := Lib.hid (below_grown (w0 := w) (B := w.heap.size) (w := ((W.alloc (.cells #[.int .i64 m] 3)).alloc (.cells #[] 3)).drew) ((Below.drew (Below.alloc (Below.alloc HBW.out (by omega) _) (by first | omega | (simp; done) | (simp; omega)) _))) hg4 (by first | omega | (simp; done) | (simp; omega)) (by intro b' hb'; simp [Value.ownBlock] at hb'; omega)); have O4 := Lib.hid o4; have s4 : W.heap.size ≤ w4.heap.size := (by have := hg4.size; first | omega | (simp at this; omega)); have X4 := Lib.hid (Box.grown (w := ((W.alloc (.cells #[.int .i64 m] 3)).alloc (.cells #[] 3)).drew) (g := W.heap.size) (t := 3) (cs := #[.int .i64 m]) ((Box.alloc (Box.made_at rfl) _).drew) hg4 (by simp [Value.ownBlock])); have l4 : W.heap.size < w4.heap.size := X4.out.lt; have D4 := Lib.hid (show W.heap.size = W.heap.size from rfl); clear o4 hg4) | (refine step_append_src (w := (w4.alloc (.cells #[.int .i64 m] 3)).drew) (by rfl) (.tmp 64) (.tmp 66) (by rfl) W.heap.size v4 j (ints P j) ((O4.out.alloc _).drew) (some ⟨w4.heap.size, 0, none⟩) 1 1 (fun _ => (m : Int)) ⟨_, _, rfl⟩ (row_one (t := 3) ((Box.made_at rfl).drew)) (by omega) (by first | omega | (simp; done) | (simp; omega)) (by rfl) (by rfl) ?_; intro v7 w7 o7 hg7; have R7 := Lib.hid (Row.moved ((Row.alloc R4.out _).drew) hg7 (by intro b' off' e'; cases e'; exact box_apart_lt HG.out (own_lo O4.out))); have B7 := Lib.hid (below_grown (w0 := w) (B := w.heap.size) (w := (w4.alloc (.cells #[.int .i64 m] 3)).drew) (Below.drew (Below.alloc B4.out (by omega) _)) hg7 (by first | omega | (simp; done) | (simp; omega)) (fun b' hb' => Nat.le_trans z3 (own_lo O4.out b' hb'))); have O7 := Lib.hid o7; have s7 : W.heap.size ≤ w7.heap.size := (by have := hg7.size; first | omega | (simp at this; omega)); clear o7 hg7) | (refine step_append_src (w := w4) (by rfl) (.tmp 64) (.tmp 66) (by rfl) W.heap.size v4 j (ints P j) (O4.out) (some ⟨W.heap.size + 1, 0, none⟩) 1 1 (fun _ => (m : Int)) ⟨_, _, rfl⟩ (row_one (t := 3) (X4.out)) (by omega) (by first | omega | (simp; done) | (simp; omega)) (by rfl) (by rfl) ?_; intro v7 w7 o7 hg7; have R7 := Lib.hid (Row.moved (R4.out) hg7 (by intro b' off' e'; cases e'; exact box_apart_lt HG.out (own_lo O4.out))); have B7 := Lib.hid (below_grown (w0 := w) (B := w.heap.size) (w := w4) (B4.out) hg7 (by first | omega | (simp; done) | (simp; omega)) (fun b' hb' => Nat.le_trans z3 (own_lo O4.out b' hb'))); have O7 := Lib.hid o7; have s7 : W.heap.size ≤ w7.heap.size := (by have := hg7.size; first | omega | (simp at this; omega)); clear o7 hg7) | (refine step_append_src (w := w4) (by rfl) (.tmp 64) (.tmp 66) (by rfl) W.heap.size v4 j (ints P j) (O4.out) (some ⟨W.heap.size, 0, none⟩) 1 1 (fun _ => (m : Int)) ⟨_, _, rfl⟩ (row_one (t := 3) (X4.out)) (by omega) (by first | omega | (simp; done) | (simp; omega)) (by rfl) (by rfl) ?_; intro v7 w7 o7 hg7; have R7 := Lib.hid (Row.moved (R4.out) hg7 (by intro b' off' e'; cases e'; exact box_apart_lt HG.out (own_lo O4.out))); have B7 := Lib.hid (below_grown (w0 := w) (B := w.heap.size) (w := w4) (B4.out) hg7 (by first | omega | (simp; done) | (simp; omega)) (fun b' hb' => Nat.le_trans z3 (own_lo O4.out b' hb'))); have O7 := Lib.hid o7; have s7 : W.heap.size ≤ w7.heap.size := (by have := hg7.size; first | omega | (simp at this; omega)); clear o7 hg7) | (refine step_append_src (w := w4.drew) (by rfl) (.tmp 64) (.tmp 66) (by rfl) W.heap.size v4 j (ints P j) (O4.out) (some ⟨W.heap.size + 1, 0, none⟩) 1 1 (fun _ => (m : Int)) ⟨_, _, rfl⟩ (row_one (t := 3) (X4.out)) (by omega) (by first | omega | (simp; done) | (simp; omega)) (by rfl) (by rfl) ?_; intro v7 w7 o7 hg7; have R7 := Lib.hid (Row.moved (R4.out) hg7 (by intro b' off' e'; cases e'; exact box_apart_lt HG.out (own_lo O4.out))); have B7 := Lib.hid (below_grown (w0 := w) (B := w.heap.size) (w := w4.drew) (B4.out) hg7 (by first | omega | (simp; done) | (simp; omega)) (fun b' hb' => Nat.le_trans z3 (own_lo O4.out b' hb'))); have O7 := Lib.hid o7; have s7 : W.heap.size ≤ w7.heap.size := (by have := hg7.size; first | omega | (simp at this; omega)); clear o7 hg7) | (refine step_append_src (w := w4.drew) (by rfl) (.tmp 64) (.tmp 66) (by rfl) W.heap.size v4 j (ints P j) (O4.out) (some ⟨W.heap.size, 0, none⟩) 1 1 (fun _ => (m : Int)) ⟨_, _, rfl⟩ (row_one (t := 3) (X4.out)) (by omega) (by first | omega | (simp; done) | (simp; omega)) (by rfl) (by rfl) ?_; intro v7 w7 o7 hg7; have R7 := Lib.hid (Row.moved (R4.out) hg7 (by intro b' off' e'; cases e'; exact box_apart_lt HG.out (own_lo O4.out))); have B7 := Lib.hid (below_grown (w0 := w) (B := w.heap.size) (w := w4.drew) (B4.out) hg7 (by first | omega | (simp; done) | (simp; omega)) (fun b' hb' => Nat.le_trans z3 (own_lo O4.out b' hb'))); have O7 := Lib.hid o7; have s7 : W.heap.size ≤ w7.heap.size := (by have := hg7.size; first | omega | (simp at this; omega)); clear o7 hg7) | (refine step_append_src (w := w4.alloc (.cells #[.int .i64 m] 3)) (by rfl) (.tmp 64) (.tmp 66) (by rfl) W.heap.size v4 j (ints P j) ((O4.out.alloc _)) (some ⟨w4.heap.size, 0, none⟩) 1 1 (fun _ => (m : Int)) ⟨_, _, rfl⟩ (row_one (t := 3) ((Box.made_at rfl))) (by omega) (by first | omega | (simp; done) | (simp; omega)) (by rfl) (by rfl) ?_; intro v7 w7 o7 hg7; have R7 := Lib.hid (Row.moved ((Row.alloc R4.out _)) hg7 (by intro b' off' e'; cases e'; exact box_apart_lt HG.out (own_lo O4.out))); have B7 := Lib.hid (below_grown (w0 := w) (B := w.heap.size) (w := w4.alloc (.cells #[.int .i64 m] 3)) (Below.alloc B4.out (by omega) _) hg7 (by first | omega | (simp; done) | (simp; omega)) (fun b' hb' => Nat.le_trans z3 (own_lo O4.out b' hb'))); have O7 := Lib.hid o7; have s7 : W.heap.size ≤ w7.heap.size := (by have := hg7.size; first | omega | (simp at this; omega)); clear o7 hg7) | (refine step_append_src (w := w7.drew) (by rfl) (.tmp 67) (.tmp 70) (by rfl) W.heap.size v7 (j + 1) (ints P j ++ ints (fun _ => (m : Int)) 1) O7.out (if c1 = j then some ⟨g, 0, none⟩ else some ⟨g, j, none⟩) (len - j) (c1 - j) (fun i => P (j + i)) part_some (row_part R7.out HC.out) (by omega) (by first | omega | (simp; done) | (simp; omega)) (by rfl) (by rfl) ?_; intro v9 w9 o9 hg9; rw [HEQ.out, seq_parts hj HST2.out] at o9; obtain ⟨g9, c9, rfl⟩ := own_head o9 (Nat.succ_pos _); have B9 := Lib.hid (below_grown (w0 := w) (B := w.heap.size) (w := w7.drew) B7.out hg9 (by first | omega | (simp; done) | (simp; omega)) (fun b' hb' => Nat.le_trans z3 (own_lo O7.out b' hb'))); have O9 := Lib.hid (own_mono (B' := w.heap.size) o9 z3); clear o9 hg9) | (refine step_append_src (w := w7) (by rfl) (.tmp 67) (.tmp 70) (by rfl) W.heap.size v7 (j + 1) (ints P j ++ ints (fun _ => (m : Int)) 1) O7.out (if c1 = j then some ⟨g, 0, none⟩ else some ⟨g, j, none⟩) (len - j) (c1 - j) (fun i => P (j + i)) part_some (row_part R7.out HC.out) (by omega) (by first | omega | (simp; done) | (simp; omega)) (by rfl) (by rfl) ?_; intro v9 w9 o9 hg9; rw [HEQ.out, seq_parts hj HST2.out] at o9; obtain ⟨g9, c9, rfl⟩ := own_head o9 (Nat.succ_pos _); have B9 := Lib.hid (below_grown (w0 := w) (B := w.heap.size) (w := w7) B7.out hg9 (by first | omega | (simp; done) | (simp; omega)) (fun b' hb' => Nat.le_trans z3 (own_lo O7.out b' hb'))); have O9 := Lib.hid (own_mono (B' := w.heap.size) o9 z3); clear o9 hg9)); all_goals (go_wp2; go_roundw; (case rel => exact ⟨m + 1, by omega, by go_num, (by have o := O9.out; rw [HLN.out] at o ⊢; first | exact o | exact o.drew), ⟨g9, c9, by rw [HLN.out]⟩, (by first | exact B9.out | exact Below.drew B9.out)⟩); (case measure => simp [intOf]; omega))
      · obtain rfl : m = n := by omega
        go_wp2
        go_ret
        exact ⟨_, rfl, hown, hbw⟩
  · have HN := Lib.hid (show seqN F n t k = 0 by simp [seqN, s1])
    rw [HN.out]
    go_enter Try.func22, Try.ntmps22
    go_wp2_with fail
    refine wp_loop_rounds 1 ?_
    rw [rounds_succ]
    by_cases hz : 0 < n
    · go_wp2_with (go_at_call 12; (with_reducible refine (sordersOk_any A n cap F _ hn (HR.out.alloc _)).mono ?_); rintro e w1 ⟨rfl, hb1⟩; obtain ⟨hc1, hf1⟩ := bcell hb1; (try simp only [World.size_drew] at hc1 hf1); have hz1 := hb1.size; (try simp at hz1); (try have q1_0 : w.heap.size < w1.heap.size := by omega); (try have q1_1 : w.heap.size + 1 < w1.heap.size := by omega); (try have q1_2 : w.heap.size + 2 < w1.heap.size := by omega); (try have q1_3 : w.heap.size + 3 < w1.heap.size := by omega); (try have q1_4 : w.heap.size + 4 < w1.heap.size := by omega); (try have q1_0_0 : w0.heap.size < w1.heap.size := by omega); (try have q1_0_1 : w0.heap.size + 1 < w1.heap.size := by omega); (try have q1_2_0 : w2.heap.size < w1.heap.size := by omega); (try have q1_2_1 : w2.heap.size + 1 < w1.heap.size := by omega); (try have q1_3_0 : w3.heap.size < w1.heap.size := by omega); (try have q1_3_1 : w3.heap.size + 1 < w1.heap.size := by omega); (try have q1_4_0 : w4.heap.size < w1.heap.size := by omega); (try have q1_4_1 : w4.heap.size + 1 < w1.heap.size := by omega); (try have q1_5_0 : w5.heap.size < w1.heap.size := by omega); (try have q1_5_1 : w5.heap.size + 1 < w1.heap.size := by omega); (try have q1_6_0 : w6.heap.size < w1.heap.size := by omega); (try have q1_6_1 : w6.heap.size + 1 < w1.heap.size := by omega); (try have u1_b : b < w1.heap.size := by omega); (try have u1_q : q < w1.heap.size := by omega); (try have u1_g : g < w1.heap.size := by omega); (try have u1_g1 : g1 < w1.heap.size := by omega); (try have u1_g2 : g2 < w1.heap.size := by omega); (try have u1_g3 : g3 < w1.heap.size := by omega); (try have u1_g4 : g4 < w1.heap.size := by omega); (try have u1_g5 : g5 < w1.heap.size := by omega))
      go_ret
      exact ⟨_, rfl, own_below (own_empty _ _ _ (Nat.le_refl _)) hb1, by (repeat (first | with_reducible exact Below.refl _ _ | with_reducible refine Below.drew ?_ | (with_reducible refine Below.alloc ?_ ?hsz _; case hsz => ((try simp) <;> (try omega))) | (with_reducible refine Below.setCell ?_ ?hsz _; case hsz => ((try simp) <;> (try omega))) | (with_reducible refine below_step (by with_reducible assumption) ?hsz ?_; case hsz => ((try simp) <;> (try omega)))))⟩
    · go_wp2
      go_ret
      exact ⟨_, rfl, own_empty _ _ _ (Nat.le_refl _), by (repeat (first | with_reducible exact Below.refl _ _ | with_reducible refine Below.drew ?_ | (with_reducible refine Below.alloc ?_ ?hsz _; case hsz => ((try simp) <;> (try omega))) | (with_reducible refine Below.setCell ?_ ?hsz _; case hsz => ((try simp) <;> (try omega))) | (with_reducible refine below_step (by with_reducible assumption) ?hsz ?_; case hsz => ((try simp) <;> (try omega)))))⟩
end Go.Proofs.Ytebgkmmmjmipnaa
