/- Contract of the reference's drawn events. -/
import Derived.Test.YtgfcmeiffhffaaaJCur
import Derived.Test.YtgfcmeiffhffaaaJAddS
namespace Go.Proofs.Ytgfcmeiffhffaaa
open Go.RowKit

theorem grown_moreEC {w a b : World} {row row2 : Option Nat} (h : w.grownBy a row) (k : a.grownBy b row2) (hk : ∀ i, row2 = some i → w.heap.size ≤ i) : w.grownBy b row :=
  ⟨k.os.trans h.os, k.tape.trans h.tape, k.output.trans h.output, Nat.le_trans h.size k.size, fun i hi hne => (k.block i (Nat.lt_of_lt_of_le hi h.size) (fun e => by have := hk i e.symm; omega)).trans (h.block i hi hne)⟩
/-- Drawn events come back: right ones, in a row of their own; all are before month 200. -/
def DrawECQ (B g : Nat) (w : World) (e : Ending) (w' : World) : Prop :=
  ∃ (n : Nat) (F : Nat → Nat → Int) (A : Option Addr) (c : Nat), e = .returned (.slice A n c) ∧ w'.ownsRow w.heap.size 106 2 (.slice A n c) n (recs F 2 n) ∧ eventsB F n = true ∧ n ≤ 8 ∧ (∀ i, i < n → F i 1 ≤ 200) ∧ w.grownBy w' (some g) ∧ CurOk B w' g
/-- A truth value comes back; of what was there only the cursor has changed. -/
def OnceEQ (B g : Nat) (w : World) (e : Ending) (w' : World) : Prop := ∃ b : Bool, e = .returned (.bool b) ∧ w.grownBy w' (some g) ∧ CurOk B w' g
theorem onceE_draw (B g : Nat) (n : Int) (w : World) (hn : 1 ≤ n) (hn2 : n ≤ 1000000000) (hc : CurOk B w g) : Calls Try.prog 113 #[.pointer (some ⟨g, 0, none⟩), .int .i64 n] w (OnceEQ B g w) := by
  go_enter Try.func113, Try.ntmps113
  go_wp2_with fail
  with_reducible refine (below_draw B g n _ hn hn2 hc).mono ?_
  rintro e w1 ⟨x, x0, x1, rfl, hg1, hc1⟩
  go_wp2
  go_ret
  exact ⟨_, rfl, hg1, hc1⟩
theorem addG_leC {F : Nat → Nat → Int} {n : Nat} {k t : Int} (h : ∀ i, i < n → F i 1 ≤ 200) (ht : t ≤ 200) (hb : addB F n k t = true) : ∀ i, i < n + 1 → addG F n k t i 1 ≤ 200 := fun i hi => by
  have hp := posE_le F t n
  simp only [addG, hb, if_pos, insF]
  split
  · exact h i (by omega)
  · split
    · exact ht
    · exact h (i - 1) (by omega)
set_option maxHeartbeats 4000000 in
theorem eventsC_draw (B g : Nat) (w : World) (hc : CurOk B w g) : Calls Try.prog 109 #[.pointer (some ⟨g, 0, none⟩)] w (DrawECQ B g w) := by
  have gl := hc.lt
  have HC := Lib.hid (hc.alloc (.cells #[] 106))
  have O0 := Lib.hid (own_rec_empty w w.heap.size 106 2 (fun _ _ => 0) (Nat.le_refl _))
  clear hc
  go_enter Try.func109, Try.ntmps109
  go_wp2_with fail
  with_reducible refine (below_draw B g 20 _ (by omega) (by omega) HC.out).mono ?_
  rintro e w1 ⟨x, x0, x1, rfl, hg1, hc1⟩
  have O1 := Lib.hid (O0.out.kept hg1 (.inr (HC.out.own_ne O0.out (by decide))))
  have G1 := Lib.hid (show w.grownBy w1 (some g) from grown_trans (grown_of_below ((Below.refl _ _).alloc (Nat.le_refl _) _) _) hg1)
  have C1 := Lib.hid hc1
  clear hg1 hc1 HC O0
  go_wp2_with fail
  go_loopw [3, 4, 5] (fun out m i wr => ∃ (k n : Nat) (F : Nat → Nat → Int) (A : Option Addr) (c : Nat) (t : Int), k ≤ 8 ∧ i = .int .i64 k ∧ m = .int .i64 t ∧ 0 ≤ t ∧ t ≤ 19 + 20 * k ∧ out = .slice A n c ∧ wr.ownsRow w.heap.size 106 2 (.slice A n c) n (recs F 2 n) ∧ n ≤ k ∧ Hid (eventsB F n = true) ∧ Hid (∀ i, i < n → F i 1 ≤ 200) ∧ CurOk B wr g ∧ w.grownBy wr (some g)) (fun _ _ i _ => 8 - (intOf i).toNat)
  case atStart => exact ⟨0, 0, fun _ _ => 0, _, _, x, by omega, rfl, rfl, x0, by omega, rfl, O1.out, by omega, rfl, fun i hi => by omega, C1.out, G1.out⟩
  case round =>
    clear O1 G1 C1
    obtain ⟨k, n, F, A, c, t, hk, rfl, rfl, t0, t1, rfl, ho, hn, hS, hT, hc, hg⟩ := hrel
    have HC := Lib.hid hc
    have HO := Lib.hid ho
    have HG := Lib.hid hg
    clear hc ho hg
    go_wp2_with fail
    with_reducible refine (below_draw B g 9 _ (by omega) (by omega) HC.out).mono ?_
    rintro e w1 ⟨y, y0, y1, rfl, hg1, hc1⟩
    have O1 := Lib.hid (HO.out.kept hg1 (.inr (HC.out.own_ne HO.out (by decide))))
    have G1 := Lib.hid (grown_trans HG.out hg1)
    have C1 := Lib.hid hc1
    clear hg1 hc1 HC HO HG
    by_cases hlt : (k : Int) < y
    · go_wp2_with fail
      with_reducible refine (below_draw B g 4 _ (by omega) (by omega) C1.out).mono ?_
      rintro e w2 ⟨u, u0, u1, rfl, hg2, hc2⟩
      have O2 := Lib.hid (O1.out.kept hg2 (.inr (C1.out.own_ne O1.out (by decide))))
      have G2 := Lib.hid (grown_trans G1.out hg2)
      have C2 := Lib.hid hc2
      clear hg2 hc2 O1 G1 C1
      by_cases h4 : u = 3
      · subst h4
        have hd : ((1 : Int) + 3 == 4) = true := rfl
        go_wp2_with fail
        with_reducible refine (onceE_draw B g 3 _ (by omega) (by omega) C2.out).mono ?_
        rintro e w3 ⟨b, rfl, hg3, hc3⟩
        have OX := Lib.hid (O2.out.kept hg3 (.inr (C2.out.own_ne O2.out (by decide))))
        have GX := Lib.hid (grown_trans G2.out hg3)
        have CX := Lib.hid hc3
        clear hg3 hc3 O2 G2 C2 hd
        cases b
        · go_wp2_with fail; (with_reducible refine (sadd_any A n c F 1 t _ (by omega) (own_anyA OX.out) (own_rec OX.out)).mono ?_); (rintro e w4 ⟨v, rfl, o4, hb4⟩); (have zX := GX.out.size); (have O4 := Lib.hid (own_below OX.out hb4)); (have C4 := Lib.hid (CX.out.kept hb4)); (have G4 := Lib.hid (grown_moreEC GX.out (grown_of_below hb4 none) (fun i e => by cases e))); (obtain ⟨A5, c5, rfl, _, _⟩ := own_recs o4); (have O5 := Lib.hid (own_mono (B' := w.heap.size) o4 zX)); (clear o4 hb4 OX GX CX); (rcases Bool.eq_false_or_eq_true (addB F n 1 t) with s1 | s1)
          · (have HT5 := Lib.hid (addG_leC hT.out (show t ≤ 200 by omega) s1)); (have HS5 := Lib.hid (show eventsB (addG F n 1 t) (n + 1) = true by (have h := s1; simp only [addB, Bool.and_eq_true] at h; simp only [addG, s1, if_pos]; exact h.2))); (have hN : addN F n 1 t = n + 1 := by (simp [addN, s1])); (rw [hN] at O5 ⊢); (rw [s1]); (clear s1 hN O4 hS hT); (generalize addG F n 1 t = X at *); go_wp2_with fail; (with_reducible refine (below_draw B g 20 _ (by omega) (by omega) C4.out).mono ?_); (rintro e w6 ⟨z, z0, z1, rfl, hg6, hc6⟩); (have O6 := Lib.hid (O5.out.kept hg6 (.inr (C4.out.own_ne O5.out (by decide))))); (have G6 := Lib.hid (grown_trans G4.out hg6)); (have C6 := Lib.hid hc6); (clear hg6 hc6 O5 G4 C4); go_wp2; go_roundw; (case rel => exact ⟨k + 1, n + 1, X, A5, c5, t + 1 + z, by omega, by go_num, rfl, by omega, by omega, rfl, O6.out, by omega, HS5, HT5, C6.out, G6.out⟩); (case measure => simp [intOf]; omega)
          · (rw [s1]); (clear s1 O5); go_wp2; go_roundw; (case rel => exact ⟨k + 1, n, F, A, c, t, by omega, by go_num, rfl, by omega, by omega, rfl, O4.out, by omega, hS, hT, C4.out, G4.out⟩); (case measure => simp [intOf]; omega)
        · go_wp2_with fail; (with_reducible refine (sadd_any A n c F 4 t _ (by omega) (own_anyA OX.out) (own_rec OX.out)).mono ?_); (rintro e w4 ⟨v, rfl, o4, hb4⟩); (have zX := GX.out.size); (have O4 := Lib.hid (own_below OX.out hb4)); (have C4 := Lib.hid (CX.out.kept hb4)); (have G4 := Lib.hid (grown_moreEC GX.out (grown_of_below hb4 none) (fun i e => by cases e))); (obtain ⟨A5, c5, rfl, _, _⟩ := own_recs o4); (have O5 := Lib.hid (own_mono (B' := w.heap.size) o4 zX)); (clear o4 hb4 OX GX CX); (rcases Bool.eq_false_or_eq_true (addB F n 4 t) with s1 | s1)
          · (have HT5 := Lib.hid (addG_leC hT.out (show t ≤ 200 by omega) s1)); (have HS5 := Lib.hid (show eventsB (addG F n 4 t) (n + 1) = true by (have h := s1; simp only [addB, Bool.and_eq_true] at h; simp only [addG, s1, if_pos]; exact h.2))); (have hN : addN F n 4 t = n + 1 := by (simp [addN, s1])); (rw [hN] at O5 ⊢); (rw [s1]); (clear s1 hN O4 hS hT); (generalize addG F n 4 t = X at *); go_wp2_with fail; (with_reducible refine (below_draw B g 20 _ (by omega) (by omega) C4.out).mono ?_); (rintro e w6 ⟨z, z0, z1, rfl, hg6, hc6⟩); (have O6 := Lib.hid (O5.out.kept hg6 (.inr (C4.out.own_ne O5.out (by decide))))); (have G6 := Lib.hid (grown_trans G4.out hg6)); (have C6 := Lib.hid hc6); (clear hg6 hc6 O5 G4 C4); go_wp2; go_roundw; (case rel => exact ⟨k + 1, n + 1, X, A5, c5, t + 1 + z, by omega, by go_num, rfl, by omega, by omega, rfl, O6.out, by omega, HS5, HT5, C6.out, G6.out⟩); (case measure => simp [intOf]; omega)
          · (rw [s1]); (clear s1 O5); go_wp2; go_roundw; (case rel => exact ⟨k + 1, n, F, A, c, t, by omega, by go_num, rfl, by omega, by omega, rfl, O4.out, by omega, hS, hT, C4.out, G4.out⟩); (case measure => simp [intOf]; omega)
      · have hd : ((1 : Int) + u == 4) = false := by simp; omega
        have OX := O2
        have GX := G2
        have CX := C2
        clear O2 G2 C2
        go_wp2_with fail; (with_reducible refine (sadd_any A n c F (1 + u) t _ (by omega) (own_anyA OX.out) (own_rec OX.out)).mono ?_); (rintro e w4 ⟨v, rfl, o4, hb4⟩); (have zX := GX.out.size); (have O4 := Lib.hid (own_below OX.out hb4)); (have C4 := Lib.hid (CX.out.kept hb4)); (have G4 := Lib.hid (grown_moreEC GX.out (grown_of_below hb4 none) (fun i e => by cases e))); (obtain ⟨A5, c5, rfl, _, _⟩ := own_recs o4); (have O5 := Lib.hid (own_mono (B' := w.heap.size) o4 zX)); (clear o4 hb4 OX GX CX); (rcases Bool.eq_false_or_eq_true (addB F n (1 + u) t) with s1 | s1)
        · (have HT5 := Lib.hid (addG_leC hT.out (show t ≤ 200 by omega) s1)); (have HS5 := Lib.hid (show eventsB (addG F n (1 + u) t) (n + 1) = true by (have h := s1; simp only [addB, Bool.and_eq_true] at h; simp only [addG, s1, if_pos]; exact h.2))); (have hN : addN F n (1 + u) t = n + 1 := by (simp [addN, s1])); (rw [hN] at O5 ⊢); (rw [s1]); (clear s1 hN O4 hS hT); (generalize addG F n (1 + u) t = X at *); go_wp2_with fail; (with_reducible refine (below_draw B g 20 _ (by omega) (by omega) C4.out).mono ?_); (rintro e w6 ⟨z, z0, z1, rfl, hg6, hc6⟩); (have O6 := Lib.hid (O5.out.kept hg6 (.inr (C4.out.own_ne O5.out (by decide))))); (have G6 := Lib.hid (grown_trans G4.out hg6)); (have C6 := Lib.hid hc6); (clear hg6 hc6 O5 G4 C4); go_wp2; go_roundw; (case rel => exact ⟨k + 1, n + 1, X, A5, c5, t + 1 + z, by omega, by go_num, rfl, by omega, by omega, rfl, O6.out, by omega, HS5, HT5, C6.out, G6.out⟩); (case measure => simp [intOf]; omega)
        · (rw [s1]); (clear s1 O5); go_wp2; go_roundw; (case rel => exact ⟨k + 1, n, F, A, c, t, by omega, by go_num, rfl, by omega, by omega, rfl, O4.out, by omega, hS, hT, C4.out, G4.out⟩); (case measure => simp [intOf]; omega)
    · go_wp2
      go_ret
      exact ⟨n, F, A, c, rfl, O1.out, hS.out, by omega, hT.out, G1.out, C1.out⟩
end Go.Proofs.Ytgfcmeiffhffaaa
