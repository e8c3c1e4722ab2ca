/- A fact put in front of a store, in plain words. -/
import Derived.Deep.RegionHeld3
import Derived.Deep.RegionLaw
import Derived.Deep.DeepCutAuto
import Derived.Test.YtgfcmeiffhffaaaJDrawF
namespace Go.Proofs.Ytgfcmeiffhffaaa
open Go.RowKit

def fiv (x y z u v : Int) : Nat → Int := fun j => if j = 0 then x else if j = 1 then y else if j = 2 then z else if j = 3 then u else v
theorem recs_fiv {w : World} {g : Nat} {t : TypeId} {x y z u v : Int} (h : Box w g t #[.int .i64 x, .int .i64 y, .int .i64 z, .int .i64 u, .int .i64 v]) : Recs w 5 (some ⟨g, 0, none⟩) 1 (fun _ => fiv x y z u v) :=
  recs_box h fun j hj => by
    rcases (show j = 0 ∨ j = 1 ∨ j = 2 ∨ j = 3 ∨ j = 4 by omega) with rfl | rfl | rfl | rfl | rfl <;> rfl
theorem store_snoc {F : Nat → Nat → Int} {n : Nat} {x y z u v : Int} (h : storeB F n = true) (hn : n + 1 ≤ 200) (hf : factB x y z u v = true) (hk : ∀ i, i < n → F i 3 ≤ u) : storeB (catF F n (fun _ => fiv x y z u v)) (n + 1) = true := by
  simp only [storeB, Bool.and_eq_true, decide_eq_true_eq] at h ⊢
  refine ⟨allB_iff.2 fun i hi => ?_, hn⟩
  by_cases hin : i < n
  · have := allB_iff.1 h.1 i hin
    have b3 : ∀ j, catF F n (fun _ => fiv x y z u v) i j = F i j := fun j => by simp only [catF]; rw [if_pos hin]
    have b4 : ∀ j, catF F n (fun _ => fiv x y z u v) (i - 1) j = F (i - 1) j := fun j => by simp only [catF]; rw [if_pos (by omega)]
    unfold storeAt factAt at *
    rw [b3, b3, b3, b3, b3, b4]
    exact this
  · obtain rfl : i = n := by omega
    have b0 : ∀ j, catF F i (fun _ => fiv x y z u v) i j = fiv x y z u v j := fun j => by simp only [catF]; rw [if_neg (by omega)]
    unfold storeAt factAt
    rw [b0, b0, b0, b0, b0]
    have e0 : factB (fiv x y z u v 0) (fiv x y z u v 1) (fiv x y z u v 2) (fiv x y z u v 3) (fiv x y z u v 4) = true := hf
    rw [e0, Bool.true_and]
    rcases Nat.eq_zero_or_pos i with h0 | h0
    · simp [h0]
    · have b3 : catF F i (fun _ => fiv x y z u v) (i - 1) 3 = F (i - 1) 3 := by simp only [catF]; rw [if_pos (by omega)]
      have b5 : fiv x y z u v 3 = u := rfl
      have d : decide (u < F (i - 1) 3) = false := decide_eq_false (by have := hk (i - 1) (by omega); omega)
      rw [b3, b5, d]
      simp
theorem known_snoc {F : Nat → Nat → Int} {n : Nat} {x y z u v a : Int} (h : ∀ i, i < n → F i 3 ≤ a) (ha : a ≤ u) : ∀ i, i < n + 1 → catF F n (fun _ => fiv x y z u v) i 3 ≤ u := fun i hi => by
  simp only [catF]
  split
  · have := h i (by assumption); omega
  · exact Int.le_refl _
/-- A drawn store: a right one, in a row of its own. -/
def StoreQ (B g : Nat) (w : World) (e : Ending) (w' : World) : Prop :=
  ∃ (n : Nat) (F : Nat → Nat → Int) (A : Option Addr) (c : Nat), e = .returned (.agg #[.slice A n c]) ∧ w'.ownsRow w.heap.size 124 5 (.slice A n c) n (recs F 5 n) ∧ storeB F n = true ∧ n ≤ 9 ∧ w.grownBy w' (some g) ∧ CurOk B w' g
set_option maxRecDepth 100000 in
set_option maxHeartbeats 16000000 in
theorem store_draw (B g : Nat) (w : World) (hc : CurOk B w g) : Calls Try.prog 78 #[.pointer (some ⟨g, 0, none⟩)] w (StoreQ B g w) := by
  have gl := hc.lt
  have HC := Lib.hid ((hc.alloc (.cells #[.slice none 0 0] 53)).alloc (.cells #[.slice none 0 0] 53))
  have X0 := Lib.hid ((Box.made w 53 #[.slice none 0 0]).alloc (.cells #[.slice none 0 0] 53))
  have X1 := Lib.hid (Box.made_at (w := w.alloc (.cells #[.slice none 0 0] 53)) (t := 53) (cs := #[.slice none 0 0]) (g := w.heap.size + 1) (by simp))
  have G0 := Lib.hid (grown_of_below (((Below.refl w.heap.size w).alloc (Nat.le_refl _) (.cells #[.slice none 0 0] 53)).alloc (by simp) (.cells #[.slice none 0 0] 53)) (some g))
  have gn0 : w.heap.size ≠ g := by omega
  have gn1 : w.heap.size + 1 ≠ g := by omega
  clear hc
  go_enter Try.func78, Try.ntmps78
  go_wp2_with fail
  with_reducible refine (below_draw B g 10 _ (by omega) (by omega) HC.out).mono ?_
  rintro e w1 ⟨a, a0, a1, rfl, hg1, hc1⟩
  have Y0 := Lib.hid (X0.out.grown hg1 (fun e => gn0 (Option.some.inj e)))
  have Y1 := Lib.hid (X1.out.grown hg1 (fun e => gn1 (Option.some.inj e)))
  have G1 := Lib.hid (grown_trans G0.out hg1)
  have C1 := Lib.hid hc1
  clear hg1 hc1 HC X0 X1 G0
  go_wp2_with fail
  go_loopw [4, 5] (fun kn i wr => ∃ (n : Nat) (F : Nat → Nat → Int) (A : Option Addr) (c : Nat) (a : Int), n ≤ 9 ∧ i = .int .i64 n ∧ kn = .int .i64 a ∧ 0 ≤ a ∧ a ≤ 9 + 11 * n ∧ wr.ownsRow (w.heap.size + 2) 124 5 (.slice A n c) n (recs F 5 n) ∧ Hid (storeB F n = true) ∧ Hid (∀ i, i < n → F i 3 ≤ a) ∧ CurOk B wr g ∧ w.grownBy wr (some g) ∧ Box wr w.heap.size 53 #[.slice none 0 0] ∧ Box wr (w.heap.size + 1) 53 #[.slice A n c]) (fun _ i _ => 9 - (intOf i).toNat)
  case atStart => exact ⟨0, fun _ _ => 0, none, 0, a, by omega, rfl, rfl, a0, by omega, World.ownsRow_nil _ _ _ _, by show storeB _ 0 = true; rfl, fun i hi => by omega, C1.out, G1.out, Y0.out, Y1.out⟩
  case round =>
    clear Y0 Y1 G1 C1
    obtain ⟨n, F, A, c, a, hn, rfl, rfl, a0, a1, ho, hS, hT, hc, hg, x0, x1⟩ := hrel
    have HC := Lib.hid hc
    have HO := Lib.hid ho
    have HG := Lib.hid hg
    have X0 := Lib.hid x0
    have X1 := Lib.hid x1
    clear hc ho hg x0 x1
    go_wp2_with fail
    with_reducible refine (below_draw B g 10 _ (by omega) (by omega) HC.out).mono ?_
    rintro e w1 ⟨y, y0, y1, rfl, hg1, hc1⟩
    have O1 := Lib.hid (HO.out.kept hg1 (.inr (HC.out.own_ne HO.out (by decide))))
    have G1 := Lib.hid (grown_trans HG.out hg1)
    have C1 := Lib.hid hc1
    have y0x := X0.out.grown hg1 (fun e => gn0 (Option.some.inj e))
    have y1x := X1.out.grown hg1 (fun e => gn1 (Option.some.inj e))
    have Y0 := Lib.hid y0x
    have Y1 := Lib.hid y1x
    clear hg1 hc1 HC HO HG X0 X1
    by_cases hlt : (n : Int) < y
    · clear y0x y1x
      go_wp2_with fail
      with_reducible refine (below_draw B g 12 _ (by omega) (by omega) C1.out).mono ?_
      rintro e w2 ⟨u, u0, u1, rfl, hg2, hc2⟩
      have O2 := Lib.hid (O1.out.kept hg2 (.inr (C1.out.own_ne O1.out (by decide))))
      have G2 := Lib.hid (grown_trans G1.out hg2)
      have C2 := Lib.hid hc2
      have Z0 := Lib.hid (Y0.out.grown hg2 (fun e => gn0 (Option.some.inj e)))
      have z1x := Y1.out.grown hg2 (fun e => gn1 (Option.some.inj e))
      have Z1 := Lib.hid z1x
      have tc := z1x.cell 0
      have l1 := z1x.lt
      simp at tc
      clear hg2 hc2 C1 O1 G1 Y0 Y1 z1x
      go_wp2_with fail
      generalize hau : a + u = au at *
      have HAU := Lib.hid hau
      clear hau
      have au0 : 0 ≤ au := by have := HAU.out; omega
      have au1 : au ≤ 9 + 11 * (n + 1) := by have := HAU.out; omega
      have CD := Lib.hid (show CurOk B w2.drew g from C2.out)
      have OD := Lib.hid (show w2.drew.ownsRow (w.heap.size + 2) 124 5 (.slice A n c) n (recs F 5 n) from O2.out)
      have GD := Lib.hid (show w.grownBy w2.drew (some g) from ⟨G2.out.os, G2.out.tape, G2.out.output, G2.out.size, G2.out.block⟩)
      have ZD0 := Lib.hid (show Box w2.drew w.heap.size 53 #[.slice none 0 0] from Z0.out)
      have ZD1 := Lib.hid (show Box w2.drew (w.heap.size + 1) 53 #[.slice A n c] from Z1.out)
      have ne2 := CD.out.own_ne OD.out (by decide)
      have FD := Lib.hid (fact_draw B g au w2.drew au0 (by omega) CD.out)
      clear C2 O2 G2 Z0 Z1
      go_region_law (first | (go_simp; go_at_call 107; (with_reducible refine FD.out.mono ?_); rintro e w4 ⟨f0, f1, f2, f4, rfl, hf, hg4, hc4⟩; have hz4 : Box w4 (w.heap.size + 1) 53 #[.slice A n c] := ZD1.out.grown hg4 (fun e => gn1 (Option.some.inj e)); have tc4 := hz4.cell 0; (simp at tc4); have u4 := hz4.lt; have O4 := Lib.hid (OD.out.kept hg4 (.inr ne2)); have G4 := Lib.hid (grown_trans GD.out hg4); have Z04 := Lib.hid (ZD0.out.grown hg4 (fun e => gn0 (Option.some.inj e))); have Z14 := Lib.hid hz4; have C4 := Lib.hid hc4; have HF4 := Lib.hid hf; clear hg4 hc4 hf) | (refine step_app_recs (w := w4.alloc (.cells #[.int .i64 f0, .int .i64 f1, .int .i64 f2, .int .i64 au, .int .i64 f4] 124)) (by rfl) (.tmp 20) (.tmp 24) 51 (by rfl) (w.heap.size + 2) 124 (.agg #[.int .i64 0, .int .i64 0, .int .i64 0, .int .i64 0, .int .i64 0]) 5 40 Try.underlying51 infFact rfl (by decide) (by decide) _ n F (O4.out.alloc _) (some ⟨w4.heap.size, 0, none⟩) 1 1 (fun _ => fiv f0 f1 f2 au f4) (.inr ⟨_, _, rfl⟩) (recs_fiv (Box.made w4 _ _)) (by omega) (by simp; omega) (by rfl) (by rfl) ?_; intro v7 w7 o7 hg7; obtain ⟨A7, c7, rfl, _, _⟩ := own_recs o7; have lo4 := own_lo O4.out; have hz7 : Box w7 (w.heap.size + 1) 53 #[.slice A n c] := ((Z14.out.alloc (.cells #[.int .i64 f0, .int .i64 f1, .int .i64 f2, .int .i64 au, .int .i64 f4] 124)).grown hg7 (box_apart_lt (by omega) lo4)); have tc7 := hz7.cell 0; (simp at tc7); have tf7 := hz7.frozen 0; have u7 := hz7.lt))
      all_goals
        have O7 := Lib.hid o7
        have l4 := own_lo O4.out
        have C7 := Lib.hid ((C4.out.alloc (.cells #[.int .i64 f0, .int .i64 f1, .int .i64 f2, .int .i64 au, .int .i64 f4] 124)).grown hg7 (fun k e => ⟨by have h2 := C4.out.low; have := l4 k e; omega, by have := l4 k e; omega⟩))
        have G7 := Lib.hid (grown_moreC (grown_moreC G4.out (grown_of_below ((Below.refl _ _).alloc (Nat.le_refl _) (.cells #[.int .i64 f0, .int .i64 f1, .int .i64 f2, .int .i64 au, .int .i64 f4] 124)) none) (fun i e => by cases e)) hg7 (fun i e => by have := l4 i e; omega))
        have Z07 := Lib.hid ((Z04.out.alloc (.cells #[.int .i64 f0, .int .i64 f1, .int .i64 f2, .int .i64 au, .int .i64 f4] 124)).grown hg7 (box_apart_lt (by omega) l4))
        have HG9 := Lib.hid (grown_set (grown_refl w7 (some (w.heap.size + 1))) 0 (.slice A7 (n + 1) c7))
        have C9 := Lib.hid (C7.out.grown HG9.out (fun i e => by cases e; have := C7.out.low; exact ⟨by omega, gn1⟩))
        have G9 := Lib.hid (grown_moreC G7.out HG9.out (fun i e => by cases e; exact Nat.le_succ _))
        have O9 := Lib.hid (O7.out.kept HG9.out (.inr (fun e => by have := own_lo O7.out _ e; omega)))
        have Z09 := Lib.hid (Z07.out.grown HG9.out (fun e => by have := Option.some.inj e; omega))
        have Z19 := Lib.hid (hz7.put 0 (.slice A7 (n + 1) c7))
        have HS9 := Lib.hid (store_snoc hS.out (show n + 1 ≤ 200 by omega) HF4.out (fun i hi => by have := hT.out i hi; have := HAU.out; omega))
        have HT9 := Lib.hid (known_snoc (x := f0) (y := f1) (z := f2) (u := au) (v := f4) hT.out (by have := HAU.out; omega))
        clear o7 hg7 O4 C4 G4 Z04 Z14 hz7 hz4 HG9
        go_wp2
        go_roundw
        case rel => exact ⟨n + 1, _, A7, c7, au, by omega, by go_num, rfl, au0, au1, O9.out, HS9.out, HT9.out, C9.out, G9.out, Z09.out, Z19.out⟩
        case measure => simp [intOf]; omega
    · have tc := y1x.cell 0
      have l1 := y1x.lt
      have tr := y0x.cell 0
      have fr := y0x.frozen 0
      have l0 := y0x.lt
      simp at tc tr
      have HG9 := Lib.hid (grown_set (grown_refl w1 (some w.heap.size)) 0 (.slice A n c))
      have G9 := Lib.hid (grown_moreC G1.out HG9.out (fun i e => by cases e; exact Nat.le_refl _))
      have C9 := Lib.hid (C1.out.grown HG9.out (fun i e => by cases e; have := C1.out.low; exact ⟨by omega, gn0⟩))
      have O9 := Lib.hid (own_mono (B' := w.heap.size) (O1.out.kept HG9.out (.inr (fun e => by have := own_lo O1.out _ e; omega))) (by omega))
      clear y0x y1x Y0 Y1 G1 C1 O1
      go_wp2
      exact bodyPost_ret (v := .agg #[.slice A n c]) (by simp [results, Try.results78, go_sem, *]) rfl ⟨n, F, A, c, rfl, O9.out, hS.out, hn, G9.out, C9.out⟩
end Go.Proofs.Ytgfcmeiffhffaaa
namespace Go.Proofs.Ytgfcmeiffhffaaa
open Go.RowKit

/-- One fact, then those of F. -/
def frontF (x y z u v : Int) (F : Nat → Nat → Int) : Nat → Nat → Int := catF (fun _ => fiv x y z u v) 1 F
theorem store_known {F : Nat → Nat → Int} {n i : Nat} (h : storeB F n = true) (hi : i < n) : 0 ≤ F i 3 := by
  simp only [storeB, Bool.and_eq_true] at h
  have h1 := allB_iff.1 h.1 i hi
  simp only [storeAt, factAt, factB, Bool.and_eq_true] at h1
  exact (inB_true.1 h1.1.2.2.1).1
theorem store_front {F : Nat → Nat → Int} {n : Nat} {x y z v : Int} (h : storeB F n = true) (hn : 1 + n ≤ 200) (hf : factB x y z 0 v = true) : storeB (frontF x y z 0 v F) (1 + n) = true := by
  have h' := h
  simp only [storeB, Bool.and_eq_true, decide_eq_true_eq] at h ⊢
  refine ⟨allB_iff.2 fun i hi => ?_, hn⟩
  rcases Nat.eq_zero_or_pos i with h0 | h0
  · subst h0
    show (factB x y z 0 v && _) = true
    rw [hf]
    simp
  · obtain ⟨k, rfl⟩ : ∃ k, i = k + 1 := ⟨i - 1, by omega⟩
    have hk : k < n := by omega
    have b0 : ∀ j, frontF x y z 0 v F (k + 1) j = F k j := fun j => by simp [frontF, catF]
    have h1 := allB_iff.1 h.1 k hk
    unfold storeAt factAt at *
    rw [b0, b0, b0, b0, b0]
    simp only [Bool.and_eq_true] at h1
    rw [h1.1, Bool.true_and]
    rcases Nat.eq_zero_or_pos k with hz | hz
    · subst hz
      have b1 : frontF x y z 0 v F (0 + 1 - 1) 3 = 0 := by simp [frontF, catF, fiv]
      rw [b1, decide_eq_false (p := F 0 3 < 0) (by have := store_known h' hk; omega)]
      simp
    · have b1 : frontF x y z 0 v F (k + 1 - 1) 3 = F (k - 1) 3 := by
        obtain ⟨m, rfl⟩ : ∃ m, k = m + 1 := ⟨k - 1, by omega⟩
        simp [frontF, catF]
      rw [b1]
      have h2 := h1.2
      rw [Bool.or_eq_true, decide_eq_true_eq] at h2
      rcases h2 with h2 | h2
      · omega
      · rw [h2]; simp
end Go.Proofs.Ytgfcmeiffhffaaa
