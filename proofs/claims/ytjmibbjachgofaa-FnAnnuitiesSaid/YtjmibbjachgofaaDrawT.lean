/- Contract of the reference's drawn table. -/
import Derived.Test.YtjmibbjachgofaaCur
import Derived.Test.YtjmibbjachgofaaTabY
import Derived.Test.YtjmibbjachgofaaList
import Derived.Test.YtjmibbjachgofaaClone
namespace Go.Proofs.Ytjmibbjachgofaa
open Go.RowKit

/-- An upper bound of the deaths before they are cut. -/
def upQ : Nat → Int
  | 0 => 11000
  | k + 1 => upQ k + upQ k / 12 + 500
theorem upQ_mono (k : Nat) (h : 0 ≤ upQ k) : upQ k ≤ upQ (k + 1) := by simp only [upQ]; omega
theorem upQ_small : ∀ k, k < 50 → 0 ≤ upQ k ∧ upQ k ≤ 1000000000 := by decide +kernel
theorem grown_more {w a b : World} {row row2 : Option Nat} (h : w.grownBy a row) (k : a.grownBy b row2) (hk : ∀ i, row2 = some i → w.heap.size ≤ i) : w.grownBy b row :=
  ⟨k.os.trans h.os, k.tape.trans h.tape, k.output.trans h.output, Nat.le_trans h.size k.size, fun i hi hne => (k.block i (Nat.lt_of_lt_of_le hi h.size) (fun e => by have := hk i e.symm; omega)).trans (h.block i hi hne)⟩
theorem own_slice1 {w : World} {base : Nat} {e : TypeId} {v : Value} {n : Nat} {xs : List Value} (h : w.ownsRow base e 1 v n xs) : ∃ A c, v = .slice A n c := by
  rcases h.2 with ⟨rfl, h0⟩ | ⟨g, cap, cur, rfl, _⟩
  · subst h0; exact ⟨_, _, rfl⟩
  · exact ⟨_, _, rfl⟩
theorem grown_box {w w' : World} {g : Nat} {B : Nat} (h : w.grownBy w' (some g)) (hB : B ≤ g) (hw : B ≤ w.heap.size) : Below B w w' := grown_below h hB hw
/-- A drawn table comes back: valid, in a row of its own. -/
def DrawTQ (g : Nat) (w : World) (e : Ending) (w' : World) : Prop :=
  ∃ (f : Int) (n : Nat) (G : Nat → Int) (A : Option Addr) (c : Nat), e = .returned (.agg #[.int .i64 f, .slice A n c]) ∧ w'.ownsRow w.heap.size 3 1 (.slice A n c) n (ints G n) ∧ tableB f n G = true ∧ 50 ≤ f ∧ f ≤ 69 ∧ 1 ≤ n ∧ n ≤ 50 ∧ w.grownBy w' (some g)
theorem drawn_ok {f : Int} {L : List Int} (f0 : 50 ≤ f) (f1 : f ≤ 69) (hl : L.length ≤ 49) (hL : ∀ x ∈ L, 0 ≤ x ∧ x ≤ 1000000) : tableB f (L.length + 1) (fun i => (L ++ [1000000]).getD i 0) = true := by
  simp only [tableB, Bool.and_eq_true, decide_eq_true_eq, beq_iff_eq]
  refine ⟨⟨⟨⟨inB_true.2 ⟨by omega, by omega⟩, inB_true.2 ⟨by omega, by omega⟩⟩, by omega⟩, allB_iff.2 fun i hi => ?_⟩, by simp⟩
  apply inB_true.2
  have hm : (L ++ [1000000]).getD i 0 ∈ L ++ [1000000] := by
    rw [List.getD_eq_getElem?_getD, List.getElem?_eq_getElem (show i < (L ++ [1000000]).length by simp; omega)]
    exact List.getElem_mem _
  rcases List.mem_append.1 hm with h | h
  · exact hL _ h
  · simp only [List.mem_singleton] at h
    rw [h]; omega
set_option maxHeartbeats 4000000 in
theorem table_draw (B g : Nat) (w : World) (hc : CurOk B w g) : Calls Try.prog 59 #[.pointer (some ⟨g, 0, none⟩)] w (DrawTQ g w) := by
  obtain ⟨i0, hi0, iz0, iz1, iz2⟩ := info_parts int_inf
  have gl := hc.lt
  have HC := Lib.hid (hc.alloc (.cells #[.int .i64 0, .slice none 0 0] 39))
  clear hc
  go_enter Try.func59, Try.ntmps59
  go_wp2_with fail
  with_reducible refine (below_draw B g 20 _ (by omega) (by omega) HC.out).mono ?_
  rintro e w1 ⟨x, x0, x1, rfl, hg1, hc1⟩
  have z1 := hg1.size
  simp only [World.size_alloc] at z1
  have R1 : Box w1 w.heap.size 39 #[.int .i64 0, .slice none 0 0] := (Box.made w _ _).grown hg1 (by simp; omega)
  have G1 : w.grownBy w1 (some g) := grown_trans (grown_of_below ((Below.refl _ _).alloc (Nat.le_refl _) _) _) hg1
  have HC1 := Lib.hid (hc1.alloc (.cells #[.int .i64 (50 + x), .slice none 0 0] 39))
  have R2 := R1.alloc (.cells #[.int .i64 (50 + x), .slice none 0 0] 39)
  have T2 := Box.made w1 39 #[.int .i64 (50 + x), .slice none 0 0]
  have G2 : w.grownBy (w1.alloc (.cells #[.int .i64 (50 + x), .slice none 0 0] 39)) (some g) := grown_trans G1 (grown_of_below ((Below.refl _ _).alloc (Nat.le_refl _) _) _)
  clear hg1 hc1 HC R1 G1
  go_wp2_with fail
  with_reducible refine (below_draw B g 9000 _ (by omega) (by omega) HC1.out).mono ?_
  rintro e w3 ⟨y, y0, y1, rfl, hg3, hc3⟩
  have lc1 := HC1.out.lt
  have hgw1 : g ≠ w1.heap.size := by omega
  have R3 := R2.grown hg3 (by simp; omega)
  have T3 := T2.grown hg3 (by simp; omega)
  have G3 := grown_trans G2 hg3
  have z3 := hg3.size
  simp only [World.size_alloc] at z3
  clear HC1 R2 T2 G2 hg3
  have HC3 := Lib.hid hc3
  have G3' := Lib.hid G3
  clear hc3 G3
  go_wp2_with fail
  go_loopw [4, 5] (fun q i wr => ∃ (k : Nat) (L : List Int) (A2 : Option Addr) (c2 : Nat) (qq : Int), k ≤ 49 ∧ i = .int .i64 k ∧ q = .int .i64 qq ∧ 0 ≤ qq ∧ qq ≤ upQ k ∧ L.length = k ∧ Hid (∀ x ∈ L, 0 ≤ x ∧ x ≤ 1000000) ∧ wr.ownsRow w.heap.size 3 1 (.slice A2 k c2) k (L.map (Value.int .i64)) ∧ Box wr w1.heap.size 39 #[.int .i64 (50 + x), .slice A2 k c2] ∧ Box wr w.heap.size 39 #[.int .i64 0, .slice none 0 0] ∧ CurOk B wr g ∧ w.grownBy wr (some g)) (fun _ i _ => 50 - (intOf i).toNat)
  case atStart => exact ⟨0, [], none, 0, 2000 + y, by omega, rfl, rfl, by omega, by simp only [upQ]; omega, rfl, fun x h => by simp at h, World.ownsRow_nil _ _ _ _, T3, R3, HC3.out, G3'.out⟩
  case round =>
    clear T3 R3 HC3 G3' z3
    obtain ⟨k, L, A2, c2, qq, hk, rfl, rfl, q0, q1, hll, hL, ho, T, R, hc, hg⟩ := hrel
    obtain ⟨uq0, uq1⟩ := upQ_small k (by omega)
    have HLL := Lib.hid hll
    have HCC := Lib.hid hc
    have hlow := hc.low
    have tl0 := T.lt
    have rl0 := R.lt
    clear hll hc
    go_wp2_with fail
    with_reducible refine (below_draw B g 40 _ (by omega) (by omega) HCC.out).mono ?_
    rintro e w4 ⟨z, z0, z4, rfl, hg4, hc4⟩
    have NC := HCC.out.own_ne ho (by decide)
    have T4 := Lib.hid (T.grown hg4 (by simp; omega))
    have R4 := Lib.hid (R.grown hg4 (by simp; omega))
    have G4 := Lib.hid (grown_trans hg hg4)
    have HO4 := Lib.hid (ho.kept hg4 (.inr NC))
    have HC4 := Lib.hid hc4
    have zz := hg.size
    have z5 := hg4.size
    clear NC T R hg ho HCC hc4 hg4
    obtain ⟨t0, t1, t2, t3⟩ := T4.out.two
    have tl := T4.out.lt
    by_cases hlt : (k : Int) < 10 + z
    · skip
      go_wp2_with (at_builtin; refine wpList_append_own _ rfl _ _ 24 rfl w.heap.size 3 i0 (.int .i64 0) 1 8 Try.underlying24 hi0 iz0 iz1 iz2 rfl (by decide) _ _ _ rfl (HO4.out.alloc _) ⟨w4.heap.size, 0, none⟩ 1 1 [.int .i64 (min qq 1000000)] rfl rfl ?c1 ?c2 ?c3 ?c4 ?c5 ?_)
      case c1 => exact cell_one_new _ _ _
      case c2 => intro u hu; simp at hu; subst hu; rfl
      case c3 => unfold maxLen; omega
      case c4 => omega
      case c5 => simp; omega
      intro v' w' hown' hgr _
      obtain ⟨A5, c5', rfl⟩ := own_slice1 hown'
      have lo4 := own_lo HO4.out
      have NT := own_box_ne HO4.out T4.out (by decide)
      have NR := own_box_ne HO4.out R4.out (by decide)
      have NC := HC4.out.own_ne HO4.out (by decide)
      have T5 := Lib.hid ((T4.out.alloc (.cells #[.int .i64 (min qq 1000000)] 3)).grown hgr (fun e => NT e.symm))
      have R5 := Lib.hid ((R4.out.alloc (.cells #[.int .i64 (min qq 1000000)] 3)).grown hgr (fun e => NR e.symm))
      have G5 := Lib.hid (grown_more (grown_more G4.out (grown_of_below ((Below.refl _ _).alloc (Nat.le_refl _) (.cells #[.int .i64 (min qq 1000000)] 3)) none) (fun i e => by cases e)) hgr (fun i e => lo4 i e))
      have HO5 := Lib.hid hown'
      have HC5 := Lib.hid ((HC4.out.alloc (.cells #[.int .i64 (min qq 1000000)] 3)).grown hgr (fun k e => ⟨by have := lo4 k e; omega, fun e' => NC (by rw [e, e'])⟩))
      have zw := hgr.size
      simp only [World.size_alloc] at zw
      clear hown' hgr lo4 NT NR NC
      obtain ⟨t0, t1, t2, t3⟩ := T5.out.two
      obtain ⟨r0, r1, r2, r3⟩ := R5.out.two
      have tl := T5.out.lt
      have rl := R5.out.lt
      clear HO4 T4 R4 G4 HC4
      go_wp2_with fail
      have T6 := (T5.out.put 1 (.slice A5 (k + 1) c5'))
      have HC6 := Lib.hid (HC5.out.grown (grown_set (grown_refl w' (some w1.heap.size)) 1 (.slice A5 (k + 1) c5')) (fun k e => by cases e; exact ⟨by omega, by omega⟩))
      have HO6 := Lib.hid (own_setBox HO5.out T5.out (by decide) 1 (.slice A5 (k + 1) c5'))
      have R6 := R5.out.far (p := ⟨w1.heap.size, 1, none⟩) (by simp; omega) (.slice A5 (k + 1) c5')
      have G6 := grown_more G5.out (grown_set (grown_refl w' (some w1.heap.size)) 1 (.slice A5 (k + 1) c5')) (fun i e => by cases e; omega)
      with_reducible refine (below_draw B g 500 _ (by omega) (by omega) HC6.out).mono ?_
      rintro e w7 ⟨u, u0, u1, rfl, hg7, hc7⟩
      have NC := HC6.out.own_ne HO6.out (by decide)
      have T7 := Lib.hid (T6.grown hg7 (by simp; omega))
      have R7 := Lib.hid (R6.grown hg7 (by simp; omega))
      have G7 := Lib.hid (grown_trans G6 hg7)
      have HO7 := Lib.hid (HO6.out.kept hg7 (.inr NC))
      have HC7 := Lib.hid hc7
      clear T6 R6 G6 HO6 HC6 NC hc7 hg7 t0 t1 t2 t3 r0 r1 r2 r3 T5 R5 G5 HO5 HC5
      go_wp2
      go_roundw
      case rel => exact ⟨k + 1, L ++ [min qq 1000000], A5, c5', qq + qq / 12 + u, by omega, by go_num, rfl, by omega, by simp only [upQ]; omega, by simp; exact HLL.out, (fun x hx => by
        rcases List.mem_append.1 hx with h | h
        · exact hL.out x h
        · simp only [List.mem_singleton] at h; subst h; omega), by have := own_push HO7.out (by rw [HLL.out]); simpa [HLL.out] using this, by simpa [HLL.out] using T7.out, R7.out, HC7.out, G7.out⟩
      case measure => simp [intOf]; omega

    · skip
      go_wp2_with (at_builtin; refine wpList_append_own _ rfl _ _ 24 rfl w.heap.size 3 i0 (.int .i64 0) 1 8 Try.underlying24 hi0 iz0 iz1 iz2 rfl (by decide) _ _ _ rfl (HO4.out.alloc _) ⟨w4.heap.size, 0, none⟩ 1 1 [.int .i64 (1000000)] rfl rfl ?c1 ?c2 ?c3 ?c4 ?c5 ?_)
      case c1 => exact cell_one_new _ _ _
      case c2 => intro u hu; simp at hu; subst hu; rfl
      case c3 => unfold maxLen; omega
      case c4 => omega
      case c5 => simp; omega
      intro v' w' hown' hgr _
      obtain ⟨A5, c5', rfl⟩ := own_slice1 hown'
      have lo4 := own_lo HO4.out
      have NT := own_box_ne HO4.out T4.out (by decide)
      have NR := own_box_ne HO4.out R4.out (by decide)
      have NC := HC4.out.own_ne HO4.out (by decide)
      have T5 := Lib.hid ((T4.out.alloc (.cells #[.int .i64 (1000000)] 3)).grown hgr (fun e => NT e.symm))
      have R5 := Lib.hid ((R4.out.alloc (.cells #[.int .i64 (1000000)] 3)).grown hgr (fun e => NR e.symm))
      have G5 := Lib.hid (grown_more (grown_more G4.out (grown_of_below ((Below.refl _ _).alloc (Nat.le_refl _) (.cells #[.int .i64 (1000000)] 3)) none) (fun i e => by cases e)) hgr (fun i e => lo4 i e))
      have HO5 := Lib.hid hown'
      have HC5 := Lib.hid ((HC4.out.alloc (.cells #[.int .i64 (1000000)] 3)).grown hgr (fun k e => ⟨by have := lo4 k e; omega, fun e' => NC (by rw [e, e'])⟩))
      have zw := hgr.size
      simp only [World.size_alloc] at zw
      clear hown' hgr lo4 NT NR NC
      obtain ⟨t0, t1, t2, t3⟩ := T5.out.two
      obtain ⟨r0, r1, r2, r3⟩ := R5.out.two
      have tl := T5.out.lt
      have rl := R5.out.lt
      go_wp2
      refine bodyPost_ret (v := .agg #[.int .i64 (50 + x), .slice A5 (k + 1) c5']) (by simp [results, Try.results59, go_sem, *]) rfl ⟨50 + x, k + 1, fun i => (L ++ [1000000]).getD i 0, A5, c5', rfl, ?_, by have := drawn_ok (f := 50 + x) (by omega) (by omega) (by rw [HLL.out]; omega) hL.out; rwa [HLL.out] at this, by omega, by omega, by omega, by omega, ?_⟩
      · have h1 := own_push HO5.out (by rw [HLL.out])
        have h2 := own_setBox h1 T5.out (by decide) 1 (.slice A5 (k + 1) c5')
        have R6 := R5.out.far (p := ⟨w1.heap.size, 1, none⟩) (by simp; omega) (.slice A5 (k + 1) c5')
        have h3 := own_setBox (own_setBox h2 R6 (by decide) 0 (.int .i64 (50 + x))) (R6.put 0 _) (by decide) 1 (.slice A5 (k + 1) c5')
        have h4 := ints_list (L ++ [1000000])
        rw [← h4] at h3
        simpa [HLL.out] using h3
      · exact grown_more (grown_more (grown_more G5.out (grown_set (grown_refl _ (some w1.heap.size)) 1 (.slice A5 (k + 1) c5')) (fun i e => by cases e; omega)) (grown_set (grown_refl _ (some w.heap.size)) 0 (.int .i64 (50 + x))) (fun i e => by cases e; omega)) (grown_set (grown_refl _ (some w.heap.size)) 1 (.slice A5 (k + 1) c5')) (fun i e => by cases e; omega)
/-- A drawn table comes back from bytes. -/
def DrawnQ (w : World) (e : Ending) (w' : World) : Prop :=
  ∃ (f : Int) (n : Nat) (G : Nat → Int) (A : Option Addr) (c : Nat), e = .returned (.agg #[.int .i64 f, .slice A n c]) ∧ w'.ownsRow w.heap.size 3 1 (.slice A n c) n (ints G n) ∧ tableB f n G = true ∧ 50 ≤ f ∧ f ≤ 69 ∧ 1 ≤ n ∧ n ≤ 50 ∧ Below w.heap.size w w'
theorem drawTable_any (A : Option Addr) (n cap : Nat) (F : Nat → Int) (w : World) (hn : n ≤ 1048576) (hr : Row w .u8 A n F) : Calls Try.prog 30 #[.slice A n cap] w (DrawnQ w) := by
  have HR := Lib.hid (hr.alloc (.cells #[.int .i64 0, .slice none 0 0] 39))
  clear hr
  go_enter Try.func30, Try.ntmps30
  go_wp2_with fail
  with_reducible refine (new_any A n cap F _ hn HR.out).mono ?_
  rintro e w1 ⟨g, rfl, hg, hb1, hc1⟩
  have R1 : Box w1 w.heap.size 39 #[.int .i64 0, .slice none 0 0] := (Box.made w _ _).kept hb1
  have B1 : Below w.heap.size w w1 := by (repeat (first | with_reducible exact Below.refl _ _ | with_reducible refine Below.drew ?_ | (with_reducible refine Below.alloc ?_ ?hsz _; case hsz => ((try simp) <;> (try omega))) | (with_reducible refine Below.setCell ?_ ?hsz _; case hsz => ((try simp) <;> (try omega))) | (with_reducible refine below_step (by with_reducible assumption) ?hsz ?_; case hsz => ((try simp) <;> (try omega)))))
  have z1 := B1.size
  simp only [World.size_alloc] at hg
  clear hb1
  go_wp2_with fail
  with_reducible refine (table_draw _ g w1 hc1).mono ?_
  rintro e w2 ⟨f, m, G, A1, c1, rfl, ho, hv, f0, f1, m0, m1, hgw⟩
  have R2 := R1.grown hgw (by simp; omega)
  have B2 := B1.trans (grown_below hgw (show w.heap.size ≤ g by omega) z1)
  have HO := Lib.hid ho
  obtain ⟨r0, r1, r2, r3⟩ := R2.two
  have rl := R2.lt
  clear hc1 R1 B1 hgw ho
  go_wp2
  refine bodyPost_ret (v := .agg #[.int .i64 f, .slice A1 m c1]) (by simp [results, Try.results30, go_sem, *]) rfl ⟨f, m, G, A1, c1, rfl, ?_, hv, f0, f1, m0, m1, by (repeat (first | with_reducible exact Below.refl _ _ | with_reducible refine Below.drew ?_ | (with_reducible refine Below.alloc ?_ ?hsz _; case hsz => ((try simp) <;> (try omega))) | (with_reducible refine Below.setCell ?_ ?hsz _; case hsz => ((try simp) <;> (try omega))) | (with_reducible refine below_step (by with_reducible assumption) ?hsz ?_; case hsz => ((try simp) <;> (try omega)))))⟩
  exact own_mono (own_setBox (own_setBox HO.out R2 (by decide) _ _) (R2.put _ _) (by decide) _ _) z1
end Go.Proofs.Ytjmibbjachgofaa
