/- Contracts of StaysOk, of the program and of the reference. -/
import Derived.Test.YtogoddbkamgndaaRec
import Derived.Test.YtogoddbkamgndaaSpan
import Derived.BigQuiet
import Derived.Deep.QuietTactic
import Derived.Outline
namespace Go.Proofs.Ytogoddbkamgndaa
open Go.RowKit

/-- Is stay i right, and right behind stay i - 1? -/
def stayP (F : Nat → Nat → Int) (i : Nat) : Prop :=
  1 ≤ F i 0 ∧ F i 0 ≤ 9 ∧ 0 ≤ F i 1 ∧ F i 1 < F i 2 ∧ F i 2 ≤ 3600 ∧ (0 < i → F (i - 1) 2 ≤ F i 1 ∧ ¬ (F i 1 = F (i - 1) 2 ∧ F i 0 = F (i - 1) 0))
def stayB (F : Nat → Nat → Int) (i : Nat) : Bool :=
  decide (1 ≤ F i 0) && decide (F i 0 ≤ 9) && decide (0 ≤ F i 1) && decide (F i 1 < F i 2) && decide (F i 2 ≤ 3600) && (decide (i = 0) || decide (F (i - 1) 2 ≤ F i 1) && !(decide (F i 1 = F (i - 1) 2) && decide (F i 0 = F (i - 1) 0)))
theorem stayB_true {F : Nat → Nat → Int} {i : Nat} : stayB F i = true ↔ stayP F i := by
  unfold stayB stayP
  simp only [Bool.and_eq_true, Bool.or_eq_true, decide_eq_true_eq, Bool.not_eq_true', Bool.and_eq_false_iff, decide_eq_false_iff_not]
  omega
theorem stayB_false {F : Nat → Nat → Int} {i : Nat} (h : ¬ stayP F i) : stayB F i = false := by
  rw [Bool.eq_false_iff]
  exact fun h' => h (stayB_true.1 h')
def staysB (F : Nat → Nat → Int) (n : Nat) : Bool := allB (stayB F) n && decide (n ≤ 20)
theorem staysB_bad {F : Nat → Nat → Int} {n m : Nat} (hm : m < n) (h : ¬ stayP F m) : staysB F n = false := by
  simp [staysB, allB_false hm (stayB_false h)]
theorem staysB_all {F : Nat → Nat → Int} {n : Nat} (h : ∀ i, i < n → stayP F i) : staysB F n = decide (n ≤ 20) := by
  have : allB (stayB F) n = true := allB_iff.2 fun i hi => stayB_true.2 (h i hi)
  simp [staysB, this]
theorem staysB_true {F : Nat → Nat → Int} {n : Nat} (h : staysB F n = true) : (∀ i, i < n → stayP F i) ∧ n ≤ 20 := by
  simp only [staysB, Bool.and_eq_true, decide_eq_true_eq] at h
  exact ⟨fun i hi => stayB_true.1 (allB_iff.1 h.1 i hi), h.2⟩
theorem stayP_snoc {F : Nat → Nat → Int} {m : Nat} (h : ∀ i, i < m → stayP F i) (hp : stayP F m) : ∀ i, i < m + 1 → stayP F i := fun i hi => by
  rcases Nat.lt_or_ge i m with h1 | h1
  · exact h i h1
  · obtain rfl : i = m := by omega
    exact hp
set_option maxHeartbeats 2000000 in
theorem staysOk_any (A : Option Addr) (n cap : Nat) (F : Nat → Nat → Int) (w : World) (hn : n ≤ 1048576) (hr : Recs w 3 A n F) :
    Calls Try.prog 19 #[.slice A n cap] w fun e w' => e = .returned (.bool (staysB F n)) ∧ Below w.heap.size w w' := by
  have HR := Lib.hid hr
  clear hr
  go_enter Try.func19, Try.ntmps19
  go_wp2_with fail
  go_loopw [7] (fun i wr => ∃ m : Nat, m ≤ n ∧ i = .int .i64 m ∧ Below w.heap.size w wr ∧ Hid (∀ i, i < m → stayP F i)) (fun i _ => n - (intOf i).toNat)
  case atStart => exact ⟨0, Nat.zero_le _, rfl, Below.refl _ _, fun i hi => by omega⟩
  case round =>
    obtain ⟨m, hm, rfl, hbw, hF⟩ := hrel
    by_cases hlt : m < n
    · obtain ⟨b, off, rfl, hb, c0, c1, c2⟩ := HR.out.at3 hlt
      have d0 := (hbw.cell (p := ⟨b, off + m * 3, none⟩) hb).trans c0
      have d1 := (hbw.cell (p := ⟨b, off + m * 3 + 1, none⟩) hb).trans c1
      have d2 := (hbw.cell (p := ⟨b, off + m * 3 + 2, none⟩) hb).trans c2
      have hmi : (m : Int) < (n : Int) := by omega
      have hm0 : (0 : Int) ≤ (m : Int) := by omega
      have lb : b < wr.heap.size := Nat.lt_of_lt_of_le hb hbw.size
      have HB := Lib.hid hbw
      have hbs := hbw.size
      clear c0 c1 c2 hbw hb
      rcases Bool.eq_false_or_eq_true (inB (F m 0) 1 9) with a1 | a1
      · rcases Bool.eq_false_or_eq_true (spanB (F m 1) (F m 2)) with a2 | a2
        · have A1 := Lib.hid (inB_true.1 a1)
          have A2 := Lib.hid (spanB_true.1 a2)
          by_cases hz : m = 0
          · have hz2 : decide (0 < m) = false := by simp; omega
            have HZ := Lib.hid hz
            clear hz
            go_wp2_with fail
            go_big_quiet (first | (go_at_call 57; exact quiet_eq (within_any (F m 0) 1 9 _)) | (go_at_call 58; exact quiet_eq (isSpan_any (F m 1) (F m 2) _)))
            go_wp2
            (go_roundw; (case rel => exact ⟨m + 1, by omega, by go_num, (by have hbw := HB.out; first | exact below_drewN (by (repeat (first | with_reducible exact Below.refl _ _ | with_reducible refine Below.drew ?_ | (with_reducible refine Below.alloc ?_ ?hsz _; case hsz => ((try simp) <;> (try omega))) | (with_reducible refine Below.setCell ?_ ?hsz _; case hsz => ((try simp) <;> (try omega))) | (with_reducible refine below_step (by with_reducible assumption) ?hsz ?_; case hsz => ((try simp) <;> (try omega)))))) _ | (repeat (first | with_reducible exact Below.refl _ _ | with_reducible refine Below.drew ?_ | (with_reducible refine Below.alloc ?_ ?hsz _; case hsz => ((try simp) <;> (try omega))) | (with_reducible refine Below.setCell ?_ ?hsz _; case hsz => ((try simp) <;> (try omega))) | (with_reducible refine below_step (by with_reducible assumption) ?hsz ?_; case hsz => ((try simp) <;> (try omega)))))), stayP_snoc hF.out (by have := A1.out; have := A2.out; have := HZ.out; unfold stayP; omega )⟩); (case measure => simp [intOf]; omega))
          · obtain ⟨b', off', e, hb, p0, p1, p2⟩ := HR.out.at3 (show m - 1 < n by omega)
            cases e
            have g0 := (HB.out.cell (p := ⟨b, off + (m - 1) * 3, none⟩) hb).trans p0
            have g1 := (HB.out.cell (p := ⟨b, off + (m - 1) * 3 + 1, none⟩) hb).trans p1
            have g2 := (HB.out.cell (p := ⟨b, off + (m - 1) * 3 + 2, none⟩) hb).trans p2
            have hz' : (0 : Int) < (m : Int) := by omega
            have hz1 : (m : Int) - 1 < (n : Int) := by omega
            have hz2 : decide (0 < m) = true := by simp; omega
            have hz4 : IntKind.i64.wrap ((m : Int) - 1) = (m : Int) - 1 := by rw [IntKind.wrap_i64]; omega
            have hz5 : ((m : Int) - 1).toNat = m - 1 := by omega
            have hz6 : (0 : Int) ≤ (m : Int) - 1 := by omega
            clear p0 p1 p2 hb
            rcases Bool.eq_false_or_eq_true (decide (F m 1 < F (m - 1) 2)) with k1 | k1
            · go_wp2_with fail
              go_big_quiet (first | (go_at_call 57; exact quiet_eq (within_any (F m 0) 1 9 _)) | (go_at_call 58; exact quiet_eq (isSpan_any (F m 1) (F m 2) _)))
              go_wp2
              go_ret
              exact ⟨ret_bool (staysB_bad hlt (by have := of_decide_eq_true k1; unfold stayP; omega )).symm, (by have hbw := HB.out; first | exact below_drewN (by (repeat (first | with_reducible exact Below.refl _ _ | with_reducible refine Below.drew ?_ | (with_reducible refine Below.alloc ?_ ?hsz _; case hsz => ((try simp) <;> (try omega))) | (with_reducible refine Below.setCell ?_ ?hsz _; case hsz => ((try simp) <;> (try omega))) | (with_reducible refine below_step (by with_reducible assumption) ?hsz ?_; case hsz => ((try simp) <;> (try omega)))))) _ | (repeat (first | with_reducible exact Below.refl _ _ | with_reducible refine Below.drew ?_ | (with_reducible refine Below.alloc ?_ ?hsz _; case hsz => ((try simp) <;> (try omega))) | (with_reducible refine Below.setCell ?_ ?hsz _; case hsz => ((try simp) <;> (try omega))) | (with_reducible refine below_step (by with_reducible assumption) ?hsz ?_; case hsz => ((try simp) <;> (try omega))))))⟩
            · rcases Bool.eq_false_or_eq_true (F m 1 == F (m - 1) 2) with k2 | k2
              · rcases Bool.eq_false_or_eq_true (F m 0 == F (m - 1) 0) with k3 | k3
                · go_wp2_with fail
                  go_big_quiet (first | (go_at_call 57; exact quiet_eq (within_any (F m 0) 1 9 _)) | (go_at_call 58; exact quiet_eq (isSpan_any (F m 1) (F m 2) _)))
                  go_wp2
                  go_ret
                  exact ⟨ret_bool (staysB_bad hlt (by have := eq_of_beq k2; have := eq_of_beq k3; unfold stayP; omega )).symm, (by have hbw := HB.out; first | exact below_drewN (by (repeat (first | with_reducible exact Below.refl _ _ | with_reducible refine Below.drew ?_ | (with_reducible refine Below.alloc ?_ ?hsz _; case hsz => ((try simp) <;> (try omega))) | (with_reducible refine Below.setCell ?_ ?hsz _; case hsz => ((try simp) <;> (try omega))) | (with_reducible refine below_step (by with_reducible assumption) ?hsz ?_; case hsz => ((try simp) <;> (try omega)))))) _ | (repeat (first | with_reducible exact Below.refl _ _ | with_reducible refine Below.drew ?_ | (with_reducible refine Below.alloc ?_ ?hsz _; case hsz => ((try simp) <;> (try omega))) | (with_reducible refine Below.setCell ?_ ?hsz _; case hsz => ((try simp) <;> (try omega))) | (with_reducible refine below_step (by with_reducible assumption) ?hsz ?_; case hsz => ((try simp) <;> (try omega))))))⟩
                · go_wp2_with fail
                  go_big_quiet (first | (go_at_call 57; exact quiet_eq (within_any (F m 0) 1 9 _)) | (go_at_call 58; exact quiet_eq (isSpan_any (F m 1) (F m 2) _)))
                  go_wp2
                  (go_roundw; (case rel => exact ⟨m + 1, by omega, by go_num, (by have hbw := HB.out; first | exact below_drewN (by (repeat (first | with_reducible exact Below.refl _ _ | with_reducible refine Below.drew ?_ | (with_reducible refine Below.alloc ?_ ?hsz _; case hsz => ((try simp) <;> (try omega))) | (with_reducible refine Below.setCell ?_ ?hsz _; case hsz => ((try simp) <;> (try omega))) | (with_reducible refine below_step (by with_reducible assumption) ?hsz ?_; case hsz => ((try simp) <;> (try omega)))))) _ | (repeat (first | with_reducible exact Below.refl _ _ | with_reducible refine Below.drew ?_ | (with_reducible refine Below.alloc ?_ ?hsz _; case hsz => ((try simp) <;> (try omega))) | (with_reducible refine Below.setCell ?_ ?hsz _; case hsz => ((try simp) <;> (try omega))) | (with_reducible refine below_step (by with_reducible assumption) ?hsz ?_; case hsz => ((try simp) <;> (try omega)))))), stayP_snoc hF.out (by have := A1.out; have := A2.out; have := of_decide_eq_false k1; have := ne_of_beq_false k3; unfold stayP; omega )⟩); (case measure => simp [intOf]; omega))
              · go_wp2_with fail
                go_big_quiet (first | (go_at_call 57; exact quiet_eq (within_any (F m 0) 1 9 _)) | (go_at_call 58; exact quiet_eq (isSpan_any (F m 1) (F m 2) _)))
                go_wp2
                (go_roundw; (case rel => exact ⟨m + 1, by omega, by go_num, (by have hbw := HB.out; first | exact below_drewN (by (repeat (first | with_reducible exact Below.refl _ _ | with_reducible refine Below.drew ?_ | (with_reducible refine Below.alloc ?_ ?hsz _; case hsz => ((try simp) <;> (try omega))) | (with_reducible refine Below.setCell ?_ ?hsz _; case hsz => ((try simp) <;> (try omega))) | (with_reducible refine below_step (by with_reducible assumption) ?hsz ?_; case hsz => ((try simp) <;> (try omega)))))) _ | (repeat (first | with_reducible exact Below.refl _ _ | with_reducible refine Below.drew ?_ | (with_reducible refine Below.alloc ?_ ?hsz _; case hsz => ((try simp) <;> (try omega))) | (with_reducible refine Below.setCell ?_ ?hsz _; case hsz => ((try simp) <;> (try omega))) | (with_reducible refine below_step (by with_reducible assumption) ?hsz ?_; case hsz => ((try simp) <;> (try omega)))))), stayP_snoc hF.out (by have := A1.out; have := A2.out; have := of_decide_eq_false k1; have := ne_of_beq_false k2; unfold stayP; omega )⟩); (case measure => simp [intOf]; omega))
        · go_wp2_with fail
          go_big_quiet (first | (go_at_call 57; exact quiet_eq (within_any (F m 0) 1 9 _)) | (go_at_call 58; exact quiet_eq (isSpan_any (F m 1) (F m 2) _)))
          go_wp2
          go_ret
          exact ⟨ret_bool (staysB_bad hlt (by have := spanB_false a2; unfold stayP; omega )).symm, (by have hbw := HB.out; first | exact below_drewN (by (repeat (first | with_reducible exact Below.refl _ _ | with_reducible refine Below.drew ?_ | (with_reducible refine Below.alloc ?_ ?hsz _; case hsz => ((try simp) <;> (try omega))) | (with_reducible refine Below.setCell ?_ ?hsz _; case hsz => ((try simp) <;> (try omega))) | (with_reducible refine below_step (by with_reducible assumption) ?hsz ?_; case hsz => ((try simp) <;> (try omega)))))) _ | (repeat (first | with_reducible exact Below.refl _ _ | with_reducible refine Below.drew ?_ | (with_reducible refine Below.alloc ?_ ?hsz _; case hsz => ((try simp) <;> (try omega))) | (with_reducible refine Below.setCell ?_ ?hsz _; case hsz => ((try simp) <;> (try omega))) | (with_reducible refine below_step (by with_reducible assumption) ?hsz ?_; case hsz => ((try simp) <;> (try omega))))))⟩
      · go_wp2_with fail
        go_big_quiet (first | (go_at_call 57; exact quiet_eq (within_any (F m 0) 1 9 _)) | (go_at_call 58; exact quiet_eq (isSpan_any (F m 1) (F m 2) _)))
        go_wp2
        go_ret
        exact ⟨ret_bool (staysB_bad hlt (by have := inB_false.1 a1; unfold stayP; omega )).symm, (by have hbw := HB.out; first | exact below_drewN (by (repeat (first | with_reducible exact Below.refl _ _ | with_reducible refine Below.drew ?_ | (with_reducible refine Below.alloc ?_ ?hsz _; case hsz => ((try simp) <;> (try omega))) | (with_reducible refine Below.setCell ?_ ?hsz _; case hsz => ((try simp) <;> (try omega))) | (with_reducible refine below_step (by with_reducible assumption) ?hsz ?_; case hsz => ((try simp) <;> (try omega)))))) _ | (repeat (first | with_reducible exact Below.refl _ _ | with_reducible refine Below.drew ?_ | (with_reducible refine Below.alloc ?_ ?hsz _; case hsz => ((try simp) <;> (try omega))) | (with_reducible refine Below.setCell ?_ ?hsz _; case hsz => ((try simp) <;> (try omega))) | (with_reducible refine below_step (by with_reducible assumption) ?hsz ?_; case hsz => ((try simp) <;> (try omega))))))⟩
    · obtain rfl : m = n := by omega
      go_wp2
      go_ret
      exact ⟨ret_bool (by rw [staysB_all hF.out]; first | rfl | (simp; done) | (simp; omega)), hbw⟩
set_option maxHeartbeats 2000000 in
theorem sstaysOk_any (A : Option Addr) (n cap : Nat) (F : Nat → Nat → Int) (w : World) (hn : n ≤ 1048576) (hr : Recs w 3 A n F) :
    Calls Try.prog 17 #[.slice A n cap] w fun e w' => e = .returned (.bool (staysB F n)) ∧ Below w.heap.size w w' := by
  have HR := Lib.hid hr
  clear hr
  go_enter Try.func17, Try.ntmps17
  go_wp2_with fail
  go_loopw [3] (fun i wr => ∃ m : Nat, m ≤ n ∧ i = .int .i64 m ∧ Below w.heap.size w wr ∧ Hid (∀ i, i < m → stayP F i)) (fun i _ => n - (intOf i).toNat)
  case atStart => exact ⟨0, Nat.zero_le _, rfl, Below.refl _ _, fun i hi => by omega⟩
  case round =>
    obtain ⟨m, hm, rfl, hbw, hF⟩ := hrel
    by_cases hlt : m < n
    · obtain ⟨b, off, rfl, hb, c0, c1, c2⟩ := HR.out.at3 hlt
      have d0 := (hbw.cell (p := ⟨b, off + m * 3, none⟩) hb).trans c0
      have d1 := (hbw.cell (p := ⟨b, off + m * 3 + 1, none⟩) hb).trans c1
      have d2 := (hbw.cell (p := ⟨b, off + m * 3 + 2, none⟩) hb).trans c2
      have hmi : (m : Int) < (n : Int) := by omega
      have hm0 : (0 : Int) ≤ (m : Int) := by omega
      have lb : b < wr.heap.size := Nat.lt_of_lt_of_le hb hbw.size
      have HB := Lib.hid hbw
      have hbs := hbw.size
      clear c0 c1 c2 hbw hb
      rcases Bool.eq_false_or_eq_true (inB (F m 0) 1 9) with a1 | a1
      · rcases Bool.eq_false_or_eq_true (spanB (F m 1) (F m 2)) with a2 | a2
        · have A1 := Lib.hid (inB_true.1 a1)
          have A2 := Lib.hid (spanB_true.1 a2)
          obtain ⟨r0, r1, r2⟩ := spanB_true.1 a2
          by_cases hz : m = 0
          · have hz2 : decide (0 < m) = false := by simp; omega
            have HZ := Lib.hid hz
            clear hz
            go_wp2_with (go_at_call 55; (with_reducible refine (l01In_any (F m 0) 1 9 _).mono ?_); rintro e w' ⟨rfl, rfl⟩)
            go_big_quiet (fail)
            go_wp2
            (go_roundw; (case rel => exact ⟨m + 1, by omega, by go_num, (by have hbw := HB.out; first | exact below_drewN (by (repeat (first | with_reducible exact Below.refl _ _ | with_reducible refine Below.drew ?_ | (with_reducible refine Below.alloc ?_ ?hsz _; case hsz => ((try simp) <;> (try omega))) | (with_reducible refine Below.setCell ?_ ?hsz _; case hsz => ((try simp) <;> (try omega))) | (with_reducible refine below_step (by with_reducible assumption) ?hsz ?_; case hsz => ((try simp) <;> (try omega)))))) _ | (repeat (first | with_reducible exact Below.refl _ _ | with_reducible refine Below.drew ?_ | (with_reducible refine Below.alloc ?_ ?hsz _; case hsz => ((try simp) <;> (try omega))) | (with_reducible refine Below.setCell ?_ ?hsz _; case hsz => ((try simp) <;> (try omega))) | (with_reducible refine below_step (by with_reducible assumption) ?hsz ?_; case hsz => ((try simp) <;> (try omega)))))), stayP_snoc hF.out (by have := A1.out; have := A2.out; have := HZ.out; unfold stayP; omega )⟩); (case measure => simp [intOf]; omega))
          · obtain ⟨b', off', e, hb, p0, p1, p2⟩ := HR.out.at3 (show m - 1 < n by omega)
            cases e
            have g0 := (HB.out.cell (p := ⟨b, off + (m - 1) * 3, none⟩) hb).trans p0
            have g1 := (HB.out.cell (p := ⟨b, off + (m - 1) * 3 + 1, none⟩) hb).trans p1
            have g2 := (HB.out.cell (p := ⟨b, off + (m - 1) * 3 + 2, none⟩) hb).trans p2
            have hz' : (0 : Int) < (m : Int) := by omega
            have hz1 : (m : Int) - 1 < (n : Int) := by omega
            have hz2 : decide (0 < m) = true := by simp; omega
            have hz4 : IntKind.i64.wrap ((m : Int) - 1) = (m : Int) - 1 := by rw [IntKind.wrap_i64]; omega
            have hz5 : ((m : Int) - 1).toNat = m - 1 := by omega
            have hz6 : (0 : Int) ≤ (m : Int) - 1 := by omega
            clear p0 p1 p2 hb
            rcases Bool.eq_false_or_eq_true (decide (F m 1 < F (m - 1) 2)) with k1 | k1
            · go_wp2_with (go_at_call 55; (with_reducible refine (l01In_any (F m 0) 1 9 _).mono ?_); rintro e w' ⟨rfl, rfl⟩)
              go_big_quiet (fail)
              go_wp2
              go_ret
              exact ⟨ret_bool (staysB_bad hlt (by have := of_decide_eq_true k1; unfold stayP; omega )).symm, (by have hbw := HB.out; first | exact below_drewN (by (repeat (first | with_reducible exact Below.refl _ _ | with_reducible refine Below.drew ?_ | (with_reducible refine Below.alloc ?_ ?hsz _; case hsz => ((try simp) <;> (try omega))) | (with_reducible refine Below.setCell ?_ ?hsz _; case hsz => ((try simp) <;> (try omega))) | (with_reducible refine below_step (by with_reducible assumption) ?hsz ?_; case hsz => ((try simp) <;> (try omega)))))) _ | (repeat (first | with_reducible exact Below.refl _ _ | with_reducible refine Below.drew ?_ | (with_reducible refine Below.alloc ?_ ?hsz _; case hsz => ((try simp) <;> (try omega))) | (with_reducible refine Below.setCell ?_ ?hsz _; case hsz => ((try simp) <;> (try omega))) | (with_reducible refine below_step (by with_reducible assumption) ?hsz ?_; case hsz => ((try simp) <;> (try omega))))))⟩
            · rcases Bool.eq_false_or_eq_true (F (m - 1) 2 == F m 1) with k2 | k2
              · rcases Bool.eq_false_or_eq_true (F (m - 1) 0 == F m 0) with k3 | k3
                · go_wp2_with (go_at_call 55; (with_reducible refine (l01In_any (F m 0) 1 9 _).mono ?_); rintro e w' ⟨rfl, rfl⟩)
                  go_big_quiet (fail)
                  go_wp2
                  go_ret
                  exact ⟨ret_bool (staysB_bad hlt (by have := eq_of_beq k2; have := eq_of_beq k3; unfold stayP; omega )).symm, (by have hbw := HB.out; first | exact below_drewN (by (repeat (first | with_reducible exact Below.refl _ _ | with_reducible refine Below.drew ?_ | (with_reducible refine Below.alloc ?_ ?hsz _; case hsz => ((try simp) <;> (try omega))) | (with_reducible refine Below.setCell ?_ ?hsz _; case hsz => ((try simp) <;> (try omega))) | (with_reducible refine below_step (by with_reducible assumption) ?hsz ?_; case hsz => ((try simp) <;> (try omega)))))) _ | (repeat (first | with_reducible exact Below.refl _ _ | with_reducible refine Below.drew ?_ | (with_reducible refine Below.alloc ?_ ?hsz _; case hsz => ((try simp) <;> (try omega))) | (with_reducible refine Below.setCell ?_ ?hsz _; case hsz => ((try simp) <;> (try omega))) | (with_reducible refine below_step (by with_reducible assumption) ?hsz ?_; case hsz => ((try simp) <;> (try omega))))))⟩
                · go_wp2_with (go_at_call 55; (with_reducible refine (l01In_any (F m 0) 1 9 _).mono ?_); rintro e w' ⟨rfl, rfl⟩)
                  go_big_quiet (fail)
                  go_wp2
                  (go_roundw; (case rel => exact ⟨m + 1, by omega, by go_num, (by have hbw := HB.out; first | exact below_drewN (by (repeat (first | with_reducible exact Below.refl _ _ | with_reducible refine Below.drew ?_ | (with_reducible refine Below.alloc ?_ ?hsz _; case hsz => ((try simp) <;> (try omega))) | (with_reducible refine Below.setCell ?_ ?hsz _; case hsz => ((try simp) <;> (try omega))) | (with_reducible refine below_step (by with_reducible assumption) ?hsz ?_; case hsz => ((try simp) <;> (try omega)))))) _ | (repeat (first | with_reducible exact Below.refl _ _ | with_reducible refine Below.drew ?_ | (with_reducible refine Below.alloc ?_ ?hsz _; case hsz => ((try simp) <;> (try omega))) | (with_reducible refine Below.setCell ?_ ?hsz _; case hsz => ((try simp) <;> (try omega))) | (with_reducible refine below_step (by with_reducible assumption) ?hsz ?_; case hsz => ((try simp) <;> (try omega)))))), stayP_snoc hF.out (by have := A1.out; have := A2.out; have := of_decide_eq_false k1; have := ne_of_beq_false k3; unfold stayP; omega )⟩); (case measure => simp [intOf]; omega))
              · go_wp2_with (go_at_call 55; (with_reducible refine (l01In_any (F m 0) 1 9 _).mono ?_); rintro e w' ⟨rfl, rfl⟩)
                go_big_quiet (fail)
                go_wp2
                (go_roundw; (case rel => exact ⟨m + 1, by omega, by go_num, (by have hbw := HB.out; first | exact below_drewN (by (repeat (first | with_reducible exact Below.refl _ _ | with_reducible refine Below.drew ?_ | (with_reducible refine Below.alloc ?_ ?hsz _; case hsz => ((try simp) <;> (try omega))) | (with_reducible refine Below.setCell ?_ ?hsz _; case hsz => ((try simp) <;> (try omega))) | (with_reducible refine below_step (by with_reducible assumption) ?hsz ?_; case hsz => ((try simp) <;> (try omega)))))) _ | (repeat (first | with_reducible exact Below.refl _ _ | with_reducible refine Below.drew ?_ | (with_reducible refine Below.alloc ?_ ?hsz _; case hsz => ((try simp) <;> (try omega))) | (with_reducible refine Below.setCell ?_ ?hsz _; case hsz => ((try simp) <;> (try omega))) | (with_reducible refine below_step (by with_reducible assumption) ?hsz ?_; case hsz => ((try simp) <;> (try omega)))))), stayP_snoc hF.out (by have := A1.out; have := A2.out; have := of_decide_eq_false k1; have := ne_of_beq_false k2; unfold stayP; omega )⟩); (case measure => simp [intOf]; omega))
        · have r0 := spanB_false a2
          go_wp2_with (go_at_call 55; (with_reducible refine (l01In_any (F m 0) 1 9 _).mono ?_); rintro e w' ⟨rfl, rfl⟩)
          all_goals
            go_ret
            exact ⟨ret_bool (staysB_bad hlt (by have := spanB_false a2; unfold stayP; omega )).symm, (by have hbw := HB.out; first | exact below_drewN (by (repeat (first | with_reducible exact Below.refl _ _ | with_reducible refine Below.drew ?_ | (with_reducible refine Below.alloc ?_ ?hsz _; case hsz => ((try simp) <;> (try omega))) | (with_reducible refine Below.setCell ?_ ?hsz _; case hsz => ((try simp) <;> (try omega))) | (with_reducible refine below_step (by with_reducible assumption) ?hsz ?_; case hsz => ((try simp) <;> (try omega)))))) _ | (repeat (first | with_reducible exact Below.refl _ _ | with_reducible refine Below.drew ?_ | (with_reducible refine Below.alloc ?_ ?hsz _; case hsz => ((try simp) <;> (try omega))) | (with_reducible refine Below.setCell ?_ ?hsz _; case hsz => ((try simp) <;> (try omega))) | (with_reducible refine below_step (by with_reducible assumption) ?hsz ?_; case hsz => ((try simp) <;> (try omega))))))⟩
      · go_wp2_with (go_at_call 55; (with_reducible refine (l01In_any (F m 0) 1 9 _).mono ?_); rintro e w' ⟨rfl, rfl⟩)
        go_ret
        exact ⟨ret_bool (staysB_bad hlt (by have := inB_false.1 a1; unfold stayP; omega )).symm, (by have hbw := HB.out; first | exact below_drewN (by (repeat (first | with_reducible exact Below.refl _ _ | with_reducible refine Below.drew ?_ | (with_reducible refine Below.alloc ?_ ?hsz _; case hsz => ((try simp) <;> (try omega))) | (with_reducible refine Below.setCell ?_ ?hsz _; case hsz => ((try simp) <;> (try omega))) | (with_reducible refine below_step (by with_reducible assumption) ?hsz ?_; case hsz => ((try simp) <;> (try omega)))))) _ | (repeat (first | with_reducible exact Below.refl _ _ | with_reducible refine Below.drew ?_ | (with_reducible refine Below.alloc ?_ ?hsz _; case hsz => ((try simp) <;> (try omega))) | (with_reducible refine Below.setCell ?_ ?hsz _; case hsz => ((try simp) <;> (try omega))) | (with_reducible refine below_step (by with_reducible assumption) ?hsz ?_; case hsz => ((try simp) <;> (try omega))))))⟩
    · obtain rfl : m = n := by omega
      go_wp2
      go_ret
      exact ⟨ret_bool (by rw [staysB_all hF.out]; first | rfl | (simp; done) | (simp; omega)), hbw⟩
end Go.Proofs.Ytogoddbkamgndaa
