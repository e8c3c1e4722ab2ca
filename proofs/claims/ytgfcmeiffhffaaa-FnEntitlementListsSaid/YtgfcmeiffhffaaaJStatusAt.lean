/- Contracts of StatusAt, of the program and of the reference. -/
import Derived.BigQuiet
import Derived.Deep.QuietTactic
import Derived.Outline
import Derived.Test.YtgfcmeiffhffaaaJRec
import Derived.Test.YtgfcmeiffhffaaaJMonth
import Derived.Test.YtgfcmeiffhffaaaJStatusW
namespace Go.Proofs.Ytgfcmeiffhffaaa
open Go.RowKit

/-- The status after the first m events. -/
def stN (F : Nat → Nat → Int) : Nat → Int
  | 0 => 0
  | m + 1 => stI (stN F m) (F m 0)
/-- Is event i right behind those before it? -/
def evB (F : Nat → Nat → Int) (i : Nat) : Bool := stB (stN F i) (F i 0) && inB (F i 1) 0 3599 && (decide (i = 0) || decide (F (i - 1) 1 < F i 1))
def eventsB (F : Nat → Nat → Int) (n : Nat) : Bool := allB (evB F) n && decide (n ≤ 30)
theorem eventsB_bad {F : Nat → Nat → Int} {n m : Nat} (hm : m < n) (h : evB F m = false) : eventsB F n = false := by
  simp [eventsB, allB_false hm h]
theorem eventsB_all {F : Nat → Nat → Int} {n : Nat} (h : ∀ i, i < n → evB F i = true) : eventsB F n = decide (n ≤ 30) := by
  have : allB (evB F) n = true := allB_iff.2 h
  simp [eventsB, this]
theorem eventsB_true {F : Nat → Nat → Int} {n : Nat} (h : eventsB F n = true) : (∀ i, i < n → evB F i = true) ∧ n ≤ 30 := by
  simp only [eventsB, Bool.and_eq_true, decide_eq_true_eq] at h
  exact ⟨allB_iff.1 h.1, h.2⟩
theorem evB_true {F : Nat → Nat → Int} {i : Nat} (h : evB F i = true) : stB (stN F i) (F i 0) = true ∧ inB (F i 1) 0 3599 = true ∧ (0 < i → F (i - 1) 1 < F i 1) := by
  simp only [evB, Bool.and_eq_true, Bool.or_eq_true, decide_eq_true_eq] at h
  exact ⟨h.1.1, h.1.2, fun h0 => by omega⟩
theorem events_mono {F : Nat → Nat → Int} {n : Nat} (h : eventsB F n = true) : ∀ d i, i + d < n → F i 1 ≤ F (i + d) 1
  | 0, i, _ => Int.le_refl _
  | d + 1, i, hi => by
    have h1 := events_mono h d i (by omega)
    have h2 := (evB_true ((eventsB_true h).1 (i + (d + 1)) hi)).2.2 (by omega)
    have : i + (d + 1) - 1 = i + d := by omega
    rw [this] at h2
    omega
theorem evs_snoc {F : Nat → Nat → Int} {m : Nat} (h : ∀ i, i < m → evB F i = true) (hp : evB F m = true) : ∀ i, i < m + 1 → evB F i = true := fun i hi => by
  rcases Nat.lt_or_ge i m with h1 | h1
  · exact h i h1
  · obtain rfl : i = m := by omega
    exact hp
set_option maxHeartbeats 2000000 in
theorem eventsOk_big (A : Option Addr) (n cap : Nat) (F : Nat → Nat → Int) (w : World) (hn : n ≤ 1048600) (hr : Recs w 2 A n F) :
    Calls Try.prog 30 #[.slice A n cap] w fun e w' => e = .returned (.bool (eventsB F n)) ∧ Below w.heap.size w w' := by
  have HR := Lib.hid hr
  clear hr
  go_enter Try.func30, Try.ntmps30
  go_wp2_with fail
  go_loopw [3, 9] (fun x i wr => ∃ m : Nat, m ≤ n ∧ i = .int .i64 m ∧ x = .int .i64 (stN F m) ∧ Below w.heap.size w wr ∧ Hid (∀ i, i < m → evB F i = true)) (fun _ i _ => n - (intOf i).toNat)
  case atStart => exact ⟨0, Nat.zero_le _, rfl, rfl, Below.refl _ _, fun i hi => by omega⟩
  case round =>
    obtain ⟨m, hm, rfl, rfl, hbw, hF⟩ := hrel
    by_cases hlt : m < n
    · obtain ⟨b, off, rfl, hb, c0, c1⟩ := HR.out.at2 hlt
      have d0 := (hbw.cell (p := ⟨b, off + m * 2, none⟩) hb).trans c0
      have d1 := (hbw.cell (p := ⟨b, off + m * 2 + 1, none⟩) hb).trans c1
      have hmi : (m : Int) < (n : Int) := by omega
      have hm0 : (0 : Int) ≤ (m : Int) := by omega
      have lb : b < wr.heap.size := Nat.lt_of_lt_of_le hb hbw.size
      have HB := Lib.hid hbw
      have hbs := hbw.size
      clear c0 c1 hbw hb
      rcases Bool.eq_false_or_eq_true (stB (stN F m) (F m 0)) with a1 | a1
      · rcases Bool.eq_false_or_eq_true (inB (F m 1) 0 3599) with a2 | a2
        · by_cases hz : m = 0
          · have hz2 : decide (0 < m) = false := by simp; omega
            have HZ := Lib.hid hz
            clear hz
            go_wp2_with (go_at_call 61; (with_reducible refine (statusAfter_any (stN F m) (F m 0) _).mono ?_); rintro e w' ⟨rfl, rfl⟩)
            go_big_quiet ((go_at_call 28; exact quiet_eq (monthOk_any (F m 1) _)))
            go_wp2
            (go_roundw; (case rel => exact ⟨m + 1, by omega, by go_num, rfl, (by have hbw := HB.out; first | exact below_drewN (by (repeat (first | with_reducible exact Below.refl _ _ | with_reducible refine Below.drew ?_ | (with_reducible refine Below.alloc ?_ ?hsz _; case hsz => ((try simp) <;> (try omega))) | (with_reducible refine Below.setCell ?_ ?hsz _; case hsz => ((try simp) <;> (try omega))) | (with_reducible refine below_step (by with_reducible assumption) ?hsz ?_; case hsz => ((try simp) <;> (try omega)))))) _ | (repeat (first | with_reducible exact Below.refl _ _ | with_reducible refine Below.drew ?_ | (with_reducible refine Below.alloc ?_ ?hsz _; case hsz => ((try simp) <;> (try omega))) | (with_reducible refine Below.setCell ?_ ?hsz _; case hsz => ((try simp) <;> (try omega))) | (with_reducible refine below_step (by with_reducible assumption) ?hsz ?_; case hsz => ((try simp) <;> (try omega)))))), evs_snoc hF.out (by have h0 : decide (m = 0) = true := decide_eq_true HZ.out; simp only [evB, a1, a2, h0, Bool.true_or, Bool.and_self] )⟩); (case measure => simp [intOf]; omega))
          · obtain ⟨b', off', e, hb, p0, p1⟩ := HR.out.at2 (show m - 1 < n by omega)
            cases e
            have g0 := (HB.out.cell (p := ⟨b, off + (m - 1) * 2, none⟩) hb).trans p0
            have g1 := (HB.out.cell (p := ⟨b, off + (m - 1) * 2 + 1, none⟩) hb).trans p1
            have hz' : (0 : Int) < (m : Int) := by omega
            have hz1 : (m : Int) - 1 < (n : Int) := by omega
            have hz2 : decide (0 < m) = true := by simp; omega
            have hz4 : IntKind.i64.wrap ((m : Int) - 1) = (m : Int) - 1 := by rw [IntKind.wrap_i64]; omega
            have hz5 : ((m : Int) - 1).toNat = m - 1 := by omega
            have hz6 : (0 : Int) ≤ (m : Int) - 1 := by omega
            clear p0 p1 hb
            rcases Bool.eq_false_or_eq_true (decide (F m 1 ≤ F (m - 1) 1)) with k1 | k1
            · go_wp2_with (go_at_call 61; (with_reducible refine (statusAfter_any (stN F m) (F m 0) _).mono ?_); rintro e w' ⟨rfl, rfl⟩)
              go_big_quiet ((go_at_call 28; exact quiet_eq (monthOk_any (F m 1) _)))
              go_wp2
              go_ret
              exact ⟨ret_bool (eventsB_bad hlt (by have h1 := of_decide_eq_true k1; have h2 : decide (F (m - 1) 1 < F m 1) = false := (by simp; omega); simp [evB, h2, hz] )).symm, (by have hbw := HB.out; first | exact below_drewN (by (repeat (first | with_reducible exact Below.refl _ _ | with_reducible refine Below.drew ?_ | (with_reducible refine Below.alloc ?_ ?hsz _; case hsz => ((try simp) <;> (try omega))) | (with_reducible refine Below.setCell ?_ ?hsz _; case hsz => ((try simp) <;> (try omega))) | (with_reducible refine below_step (by with_reducible assumption) ?hsz ?_; case hsz => ((try simp) <;> (try omega)))))) _ | (repeat (first | with_reducible exact Below.refl _ _ | with_reducible refine Below.drew ?_ | (with_reducible refine Below.alloc ?_ ?hsz _; case hsz => ((try simp) <;> (try omega))) | (with_reducible refine Below.setCell ?_ ?hsz _; case hsz => ((try simp) <;> (try omega))) | (with_reducible refine below_step (by with_reducible assumption) ?hsz ?_; case hsz => ((try simp) <;> (try omega))))))⟩
            · go_wp2_with (go_at_call 61; (with_reducible refine (statusAfter_any (stN F m) (F m 0) _).mono ?_); rintro e w' ⟨rfl, rfl⟩)
              go_big_quiet ((go_at_call 28; exact quiet_eq (monthOk_any (F m 1) _)))
              go_wp2
              (go_roundw; (case rel => exact ⟨m + 1, by omega, by go_num, rfl, (by have hbw := HB.out; first | exact below_drewN (by (repeat (first | with_reducible exact Below.refl _ _ | with_reducible refine Below.drew ?_ | (with_reducible refine Below.alloc ?_ ?hsz _; case hsz => ((try simp) <;> (try omega))) | (with_reducible refine Below.setCell ?_ ?hsz _; case hsz => ((try simp) <;> (try omega))) | (with_reducible refine below_step (by with_reducible assumption) ?hsz ?_; case hsz => ((try simp) <;> (try omega)))))) _ | (repeat (first | with_reducible exact Below.refl _ _ | with_reducible refine Below.drew ?_ | (with_reducible refine Below.alloc ?_ ?hsz _; case hsz => ((try simp) <;> (try omega))) | (with_reducible refine Below.setCell ?_ ?hsz _; case hsz => ((try simp) <;> (try omega))) | (with_reducible refine below_step (by with_reducible assumption) ?hsz ?_; case hsz => ((try simp) <;> (try omega)))))), evs_snoc hF.out (by have h1 := of_decide_eq_false k1; have h2 : decide (F (m - 1) 1 < F m 1) = true := (by simp; omega); simp only [evB, a1, a2, h2, Bool.or_true, Bool.and_self] )⟩); (case measure => simp [intOf]; omega))
        · go_wp2_with (go_at_call 61; (with_reducible refine (statusAfter_any (stN F m) (F m 0) _).mono ?_); rintro e w' ⟨rfl, rfl⟩)
          go_big_quiet ((go_at_call 28; exact quiet_eq (monthOk_any (F m 1) _)))
          go_wp2
          go_ret
          exact ⟨ret_bool (eventsB_bad hlt (by simp [evB, a2] )).symm, (by have hbw := HB.out; first | exact below_drewN (by (repeat (first | with_reducible exact Below.refl _ _ | with_reducible refine Below.drew ?_ | (with_reducible refine Below.alloc ?_ ?hsz _; case hsz => ((try simp) <;> (try omega))) | (with_reducible refine Below.setCell ?_ ?hsz _; case hsz => ((try simp) <;> (try omega))) | (with_reducible refine below_step (by with_reducible assumption) ?hsz ?_; case hsz => ((try simp) <;> (try omega)))))) _ | (repeat (first | with_reducible exact Below.refl _ _ | with_reducible refine Below.drew ?_ | (with_reducible refine Below.alloc ?_ ?hsz _; case hsz => ((try simp) <;> (try omega))) | (with_reducible refine Below.setCell ?_ ?hsz _; case hsz => ((try simp) <;> (try omega))) | (with_reducible refine below_step (by with_reducible assumption) ?hsz ?_; case hsz => ((try simp) <;> (try omega))))))⟩
      · go_wp2_with (go_at_call 61; (with_reducible refine (statusAfter_any (stN F m) (F m 0) _).mono ?_); rintro e w' ⟨rfl, rfl⟩)
        go_big_quiet ((go_at_call 28; exact quiet_eq (monthOk_any (F m 1) _)))
        go_wp2
        go_ret
        exact ⟨ret_bool (eventsB_bad hlt (by simp [evB, a1] )).symm, (by have hbw := HB.out; first | exact below_drewN (by (repeat (first | with_reducible exact Below.refl _ _ | with_reducible refine Below.drew ?_ | (with_reducible refine Below.alloc ?_ ?hsz _; case hsz => ((try simp) <;> (try omega))) | (with_reducible refine Below.setCell ?_ ?hsz _; case hsz => ((try simp) <;> (try omega))) | (with_reducible refine below_step (by with_reducible assumption) ?hsz ?_; case hsz => ((try simp) <;> (try omega)))))) _ | (repeat (first | with_reducible exact Below.refl _ _ | with_reducible refine Below.drew ?_ | (with_reducible refine Below.alloc ?_ ?hsz _; case hsz => ((try simp) <;> (try omega))) | (with_reducible refine Below.setCell ?_ ?hsz _; case hsz => ((try simp) <;> (try omega))) | (with_reducible refine below_step (by with_reducible assumption) ?hsz ?_; case hsz => ((try simp) <;> (try omega))))))⟩
    · obtain rfl : m = n := by omega
      go_wp2
      go_ret
      exact ⟨ret_bool (by rw [eventsB_all hF.out]; first | rfl | (simp; done) | (simp; omega)), hbw⟩
set_option maxHeartbeats 2000000 in
theorem seventsOk_big (A : Option Addr) (n cap : Nat) (F : Nat → Nat → Int) (w : World) (hn : n ≤ 1048600) (hr : Recs w 2 A n F) :
    Calls Try.prog 25 #[.slice A n cap] w fun e w' => e = .returned (.bool (eventsB F n)) ∧ Below w.heap.size w w' := by
  have HR := Lib.hid hr
  clear hr
  go_enter Try.func25, Try.ntmps25
  go_wp2_with fail
  go_loopw [3, 4] (fun x i wr => ∃ m : Nat, m ≤ n ∧ i = .int .i64 m ∧ x = .int .i64 (stN F m) ∧ Below w.heap.size w wr ∧ Hid (∀ i, i < m → evB F i = true)) (fun _ i _ => n - (intOf i).toNat)
  case atStart => exact ⟨0, Nat.zero_le _, rfl, rfl, Below.refl _ _, fun i hi => by omega⟩
  case round =>
    obtain ⟨m, hm, rfl, rfl, hbw, hF⟩ := hrel
    by_cases hlt : m < n
    · obtain ⟨b, off, rfl, hb, c0, c1⟩ := HR.out.at2 hlt
      have d0 := (hbw.cell (p := ⟨b, off + m * 2, none⟩) hb).trans c0
      have d1 := (hbw.cell (p := ⟨b, off + m * 2 + 1, none⟩) hb).trans c1
      have hmi : (m : Int) < (n : Int) := by omega
      have hm0 : (0 : Int) ≤ (m : Int) := by omega
      have lb : b < wr.heap.size := Nat.lt_of_lt_of_le hb hbw.size
      have HB := Lib.hid hbw
      have hbs := hbw.size
      clear c0 c1 hbw hb
      rcases Bool.eq_false_or_eq_true (stB (stN F m) (F m 0)) with a1 | a1
      · rcases Bool.eq_false_or_eq_true (inB (F m 1) 0 3599) with a2 | a2
        · by_cases hz : m = 0
          · have hz2 : decide (0 < m) = false := by simp; omega
            have HZ := Lib.hid hz
            clear hz
            go_wp2_with (go_at_call 56; (with_reducible refine (sstatusAfter_any (stN F m) (F m 0) _).mono ?_); rintro e w' ⟨rfl, rfl⟩)
            go_big_quiet ((go_at_call 23; exact quiet_eq (smonthOk_any (F m 1) _)))
            go_wp2
            (go_roundw; (case rel => exact ⟨m + 1, by omega, by go_num, rfl, (by have hbw := HB.out; first | exact below_drewN (by (repeat (first | with_reducible exact Below.refl _ _ | with_reducible refine Below.drew ?_ | (with_reducible refine Below.alloc ?_ ?hsz _; case hsz => ((try simp) <;> (try omega))) | (with_reducible refine Below.setCell ?_ ?hsz _; case hsz => ((try simp) <;> (try omega))) | (with_reducible refine below_step (by with_reducible assumption) ?hsz ?_; case hsz => ((try simp) <;> (try omega)))))) _ | (repeat (first | with_reducible exact Below.refl _ _ | with_reducible refine Below.drew ?_ | (with_reducible refine Below.alloc ?_ ?hsz _; case hsz => ((try simp) <;> (try omega))) | (with_reducible refine Below.setCell ?_ ?hsz _; case hsz => ((try simp) <;> (try omega))) | (with_reducible refine below_step (by with_reducible assumption) ?hsz ?_; case hsz => ((try simp) <;> (try omega)))))), evs_snoc hF.out (by have h0 : decide (m = 0) = true := decide_eq_true HZ.out; simp only [evB, a1, a2, h0, Bool.true_or, Bool.and_self] )⟩); (case measure => simp [intOf]; omega))
          · obtain ⟨b', off', e, hb, p0, p1⟩ := HR.out.at2 (show m - 1 < n by omega)
            cases e
            have g0 := (HB.out.cell (p := ⟨b, off + (m - 1) * 2, none⟩) hb).trans p0
            have g1 := (HB.out.cell (p := ⟨b, off + (m - 1) * 2 + 1, none⟩) hb).trans p1
            have hz' : (0 : Int) < (m : Int) := by omega
            have hz1 : (m : Int) - 1 < (n : Int) := by omega
            have hz2 : decide (0 < m) = true := by simp; omega
            have hz4 : IntKind.i64.wrap ((m : Int) - 1) = (m : Int) - 1 := by rw [IntKind.wrap_i64]; omega
            have hz5 : ((m : Int) - 1).toNat = m - 1 := by omega
            have hz6 : (0 : Int) ≤ (m : Int) - 1 := by omega
            clear p0 p1 hb
            rcases Bool.eq_false_or_eq_true (decide (F m 1 ≤ F (m - 1) 1)) with k1 | k1
            · go_wp2_with (go_at_call 56; (with_reducible refine (sstatusAfter_any (stN F m) (F m 0) _).mono ?_); rintro e w' ⟨rfl, rfl⟩)
              go_big_quiet ((go_at_call 23; exact quiet_eq (smonthOk_any (F m 1) _)))
              go_wp2
              go_ret
              exact ⟨ret_bool (eventsB_bad hlt (by have h1 := of_decide_eq_true k1; have h2 : decide (F (m - 1) 1 < F m 1) = false := (by simp; omega); simp [evB, h2, hz] )).symm, (by have hbw := HB.out; first | exact below_drewN (by (repeat (first | with_reducible exact Below.refl _ _ | with_reducible refine Below.drew ?_ | (with_reducible refine Below.alloc ?_ ?hsz _; case hsz => ((try simp) <;> (try omega))) | (with_reducible refine Below.setCell ?_ ?hsz _; case hsz => ((try simp) <;> (try omega))) | (with_reducible refine below_step (by with_reducible assumption) ?hsz ?_; case hsz => ((try simp) <;> (try omega)))))) _ | (repeat (first | with_reducible exact Below.refl _ _ | with_reducible refine Below.drew ?_ | (with_reducible refine Below.alloc ?_ ?hsz _; case hsz => ((try simp) <;> (try omega))) | (with_reducible refine Below.setCell ?_ ?hsz _; case hsz => ((try simp) <;> (try omega))) | (with_reducible refine below_step (by with_reducible assumption) ?hsz ?_; case hsz => ((try simp) <;> (try omega))))))⟩
            · go_wp2_with (go_at_call 56; (with_reducible refine (sstatusAfter_any (stN F m) (F m 0) _).mono ?_); rintro e w' ⟨rfl, rfl⟩)
              go_big_quiet ((go_at_call 23; exact quiet_eq (smonthOk_any (F m 1) _)))
              go_wp2
              (go_roundw; (case rel => exact ⟨m + 1, by omega, by go_num, rfl, (by have hbw := HB.out; first | exact below_drewN (by (repeat (first | with_reducible exact Below.refl _ _ | with_reducible refine Below.drew ?_ | (with_reducible refine Below.alloc ?_ ?hsz _; case hsz => ((try simp) <;> (try omega))) | (with_reducible refine Below.setCell ?_ ?hsz _; case hsz => ((try simp) <;> (try omega))) | (with_reducible refine below_step (by with_reducible assumption) ?hsz ?_; case hsz => ((try simp) <;> (try omega)))))) _ | (repeat (first | with_reducible exact Below.refl _ _ | with_reducible refine Below.drew ?_ | (with_reducible refine Below.alloc ?_ ?hsz _; case hsz => ((try simp) <;> (try omega))) | (with_reducible refine Below.setCell ?_ ?hsz _; case hsz => ((try simp) <;> (try omega))) | (with_reducible refine below_step (by with_reducible assumption) ?hsz ?_; case hsz => ((try simp) <;> (try omega)))))), evs_snoc hF.out (by have h1 := of_decide_eq_false k1; have h2 : decide (F (m - 1) 1 < F m 1) = true := (by simp; omega); simp only [evB, a1, a2, h2, Bool.or_true, Bool.and_self] )⟩); (case measure => simp [intOf]; omega))
        · go_wp2_with (go_at_call 56; (with_reducible refine (sstatusAfter_any (stN F m) (F m 0) _).mono ?_); rintro e w' ⟨rfl, rfl⟩)
          go_big_quiet ((go_at_call 23; exact quiet_eq (smonthOk_any (F m 1) _)))
          go_wp2
          go_ret
          exact ⟨ret_bool (eventsB_bad hlt (by simp [evB, a2] )).symm, (by have hbw := HB.out; first | exact below_drewN (by (repeat (first | with_reducible exact Below.refl _ _ | with_reducible refine Below.drew ?_ | (with_reducible refine Below.alloc ?_ ?hsz _; case hsz => ((try simp) <;> (try omega))) | (with_reducible refine Below.setCell ?_ ?hsz _; case hsz => ((try simp) <;> (try omega))) | (with_reducible refine below_step (by with_reducible assumption) ?hsz ?_; case hsz => ((try simp) <;> (try omega)))))) _ | (repeat (first | with_reducible exact Below.refl _ _ | with_reducible refine Below.drew ?_ | (with_reducible refine Below.alloc ?_ ?hsz _; case hsz => ((try simp) <;> (try omega))) | (with_reducible refine Below.setCell ?_ ?hsz _; case hsz => ((try simp) <;> (try omega))) | (with_reducible refine below_step (by with_reducible assumption) ?hsz ?_; case hsz => ((try simp) <;> (try omega))))))⟩
      · go_wp2_with (go_at_call 56; (with_reducible refine (sstatusAfter_any (stN F m) (F m 0) _).mono ?_); rintro e w' ⟨rfl, rfl⟩)
        go_big_quiet ((go_at_call 23; exact quiet_eq (smonthOk_any (F m 1) _)))
        go_wp2
        go_ret
        exact ⟨ret_bool (eventsB_bad hlt (by simp [evB, a1] )).symm, (by have hbw := HB.out; first | exact below_drewN (by (repeat (first | with_reducible exact Below.refl _ _ | with_reducible refine Below.drew ?_ | (with_reducible refine Below.alloc ?_ ?hsz _; case hsz => ((try simp) <;> (try omega))) | (with_reducible refine Below.setCell ?_ ?hsz _; case hsz => ((try simp) <;> (try omega))) | (with_reducible refine below_step (by with_reducible assumption) ?hsz ?_; case hsz => ((try simp) <;> (try omega)))))) _ | (repeat (first | with_reducible exact Below.refl _ _ | with_reducible refine Below.drew ?_ | (with_reducible refine Below.alloc ?_ ?hsz _; case hsz => ((try simp) <;> (try omega))) | (with_reducible refine Below.setCell ?_ ?hsz _; case hsz => ((try simp) <;> (try omega))) | (with_reducible refine below_step (by with_reducible assumption) ?hsz ?_; case hsz => ((try simp) <;> (try omega))))))⟩
    · obtain rfl : m = n := by omega
      go_wp2
      go_ret
      exact ⟨ret_bool (by rw [eventsB_all hF.out]; first | rfl | (simp; done) | (simp; omega)), hbw⟩
theorem eventsOk_any (A : Option Addr) (n cap : Nat) (F : Nat → Nat → Int) (w : World) (hn : n ≤ 1048576) (hr : Recs w 2 A n F) :
    Calls Try.prog 30 #[.slice A n cap] w fun e w' => e = .returned (.bool (eventsB F n)) ∧ Below w.heap.size w w' := eventsOk_big A n cap F w (by omega) hr
theorem seventsOk_any (A : Option Addr) (n cap : Nat) (F : Nat → Nat → Int) (w : World) (hn : n ≤ 1048576) (hr : Recs w 2 A n F) :
    Calls Try.prog 25 #[.slice A n cap] w fun e w' => e = .returned (.bool (eventsB F n)) ∧ Below w.heap.size w w' := seventsOk_big A n cap F w (by omega) hr
end Go.Proofs.Ytgfcmeiffhffaaa
namespace Go.Proofs.Ytgfcmeiffhffaaa
open Go.RowKit

/-- The status after those of the first m events that are not later than t. -/
def stM (F : Nat → Nat → Int) (t : Int) : Nat → Int
  | 0 => 0
  | m + 1 => if F m 1 ≤ t then stI (stM F t m) (F m 0) else stM F t m
def statusI (F : Nat → Nat → Int) (n : Nat) (t : Int) : Int := if eventsB F n = true then stM F t n else 0
theorem stM_all {F : Nat → Nat → Int} {t : Int} : ∀ {m : Nat}, (∀ i, i < m → F i 1 ≤ t) → stM F t m = stN F m
  | 0, _ => rfl
  | m + 1, h => by
    simp only [stM, stN]
    rw [if_pos (h m (by omega)), stM_all (fun i hi => h i (by omega))]
theorem stM_none {F : Nat → Nat → Int} {t : Int} {m : Nat} : ∀ d, (∀ i, m ≤ i → i < m + d → t < F i 1) → stM F t (m + d) = stM F t m
  | 0, _ => rfl
  | d + 1, h => by
    show stM F t (m + d + 1) = _
    simp only [stM]
    rw [if_neg (by have := h (m + d) (by omega) (by omega); omega), stM_none d (fun i h1 h2 => h i h1 (by omega))]
theorem status_end {F : Nat → Nat → Int} {n m : Nat} {t : Int} (he : eventsB F n = true) (hm : m ≤ n) (h : ∀ i, i < m → F i 1 ≤ t) (hx : m < n → t < F m 1) : stN F m = statusI F n t := by
  unfold statusI
  rw [if_pos he]
  have h1 : stM F t (m + (n - m)) = stM F t m := stM_none (n - m) (fun i h1 h2 => by
    have h3 := hx (by omega)
    have h4 := events_mono he (i - m) m (by omega)
    have : m + (i - m) = i := by omega
    rw [this] at h4
    omega)
  have : m + (n - m) = n := by omega
  rw [this] at h1
  rw [h1, stM_all h]
set_option maxHeartbeats 1000000 in
theorem statusAt_any (A : Option Addr) (n cap : Nat) (F : Nat → Nat → Int) (t : Int) (w : World) (hn : n ≤ 1048576) (hr : Recs w 2 A n F) :
    Calls Try.prog 52 #[.slice A n cap, .int .i64 t] w fun e w' => e = .returned (.int .i64 (statusI F n t)) ∧ Below w.heap.size w w' := by
  have HR := Lib.hid hr
  clear hr
  rcases Bool.eq_false_or_eq_true (eventsB F n) with s1 | s1
  · have HS := Lib.hid s1
    go_enter Try.func52, Try.ntmps52
    go_wp2_with (go_at_call 30; (with_reducible refine (eventsOk_any A n cap F _ hn HR.out).mono ?_); rintro e w1 ⟨rfl, hb1⟩; obtain ⟨hc1, hf1⟩ := bcell hb1; (try simp only [World.size_drew] at hc1 hf1); have hz1 := hb1.size; (try simp at hz1); (try have q1_0 : w.heap.size < w1.heap.size := by omega); (try have q1_1 : w.heap.size + 1 < w1.heap.size := by omega); (try have q1_2 : w.heap.size + 2 < w1.heap.size := by omega); (try have q1_3 : w.heap.size + 3 < w1.heap.size := by omega); (try have q1_4 : w.heap.size + 4 < w1.heap.size := by omega); (try have q1_0_0 : w0.heap.size < w1.heap.size := by omega); (try have q1_0_1 : w0.heap.size + 1 < w1.heap.size := by omega); (try have q1_2_0 : w2.heap.size < w1.heap.size := by omega); (try have q1_2_1 : w2.heap.size + 1 < w1.heap.size := by omega); (try have q1_3_0 : w3.heap.size < w1.heap.size := by omega); (try have q1_3_1 : w3.heap.size + 1 < w1.heap.size := by omega); (try have q1_4_0 : w4.heap.size < w1.heap.size := by omega); (try have q1_4_1 : w4.heap.size + 1 < w1.heap.size := by omega); (try have q1_5_0 : w5.heap.size < w1.heap.size := by omega); (try have q1_5_1 : w5.heap.size + 1 < w1.heap.size := by omega); (try have q1_6_0 : w6.heap.size < w1.heap.size := by omega); (try have q1_6_1 : w6.heap.size + 1 < w1.heap.size := by omega); (try have u1_b : b < w1.heap.size := by omega); (try have u1_q : q < w1.heap.size := by omega); (try have u1_g : g < w1.heap.size := by omega); (try have u1_g1 : g1 < w1.heap.size := by omega); (try have u1_g2 : g2 < w1.heap.size := by omega); (try have u1_g3 : g3 < w1.heap.size := by omega); (try have u1_g4 : g4 < w1.heap.size := by omega); (try have u1_g5 : g5 < w1.heap.size := by omega))
    clear s1 hc1 hf1
    go_loopw [5, 14] (fun x i wr => ∃ m : Nat, m ≤ n ∧ i = .int .i64 m ∧ x = .int .i64 (stM F t m) ∧ Below w.heap.size w wr) (fun _ i _ => n - (intOf i).toNat)
    case atStart => exact ⟨0, Nat.zero_le _, rfl, rfl, hb1⟩
    case round =>
      clear hb1
      obtain ⟨m, hm, rfl, rfl, hbw⟩ := hrel
      by_cases hlt : m < n
      · obtain ⟨b, off, rfl, hb, c0, c1⟩ := HR.out.at2 hlt
        have d0 := (hbw.cell (p := ⟨b, off + m * 2, none⟩) hb).trans c0
        have d1 := (hbw.cell (p := ⟨b, off + m * 2 + 1, none⟩) hb).trans c1
        have hmi : (m : Int) < (n : Int) := by omega
        have hm0 : (0 : Int) ≤ (m : Int) := by omega
        have lb : b < wr.heap.size := Nat.lt_of_lt_of_le hb hbw.size
        have HB := Lib.hid hbw
        have hbs := hbw.size
        clear c0 c1 hbw hb
        by_cases hq : F m 1 ≤ t
        · have HM := Lib.hid (show stI (stM F t m) (F m 0) = stM F t (m + 1) by simp only [stM]; rw [if_pos hq])
          go_wp2_with (go_at_call 61; (with_reducible refine (statusAfter_any (stM F t m) (F m 0) _).mono ?_); rintro e w' ⟨rfl, rfl⟩)
          go_roundw
          case rel => exact ⟨m + 1, by omega, by go_num, (by rw [← HM.out]), (by have hbw := HB.out; first | exact below_drewN (by (repeat (first | with_reducible exact Below.refl _ _ | with_reducible refine Below.drew ?_ | (with_reducible refine Below.alloc ?_ ?hsz _; case hsz => ((try simp) <;> (try omega))) | (with_reducible refine Below.setCell ?_ ?hsz _; case hsz => ((try simp) <;> (try omega))) | (with_reducible refine below_step (by with_reducible assumption) ?hsz ?_; case hsz => ((try simp) <;> (try omega)))))) _ | (repeat (first | with_reducible exact Below.refl _ _ | with_reducible refine Below.drew ?_ | (with_reducible refine Below.alloc ?_ ?hsz _; case hsz => ((try simp) <;> (try omega))) | (with_reducible refine Below.setCell ?_ ?hsz _; case hsz => ((try simp) <;> (try omega))) | (with_reducible refine below_step (by with_reducible assumption) ?hsz ?_; case hsz => ((try simp) <;> (try omega))))))⟩
          case measure => simp [intOf]; omega
        · have HM := Lib.hid (show stM F t m = stM F t (m + 1) by simp only [stM]; rw [if_neg hq])
          go_wp2
          go_roundw
          case rel => exact ⟨m + 1, by omega, by go_num, (by rw [← HM.out]), (by have hbw := HB.out; first | exact below_drewN (by (repeat (first | with_reducible exact Below.refl _ _ | with_reducible refine Below.drew ?_ | (with_reducible refine Below.alloc ?_ ?hsz _; case hsz => ((try simp) <;> (try omega))) | (with_reducible refine Below.setCell ?_ ?hsz _; case hsz => ((try simp) <;> (try omega))) | (with_reducible refine below_step (by with_reducible assumption) ?hsz ?_; case hsz => ((try simp) <;> (try omega)))))) _ | (repeat (first | with_reducible exact Below.refl _ _ | with_reducible refine Below.drew ?_ | (with_reducible refine Below.alloc ?_ ?hsz _; case hsz => ((try simp) <;> (try omega))) | (with_reducible refine Below.setCell ?_ ?hsz _; case hsz => ((try simp) <;> (try omega))) | (with_reducible refine below_step (by with_reducible assumption) ?hsz ?_; case hsz => ((try simp) <;> (try omega))))))⟩
          case measure => simp [intOf]; omega
      · obtain rfl : m = n := by omega
        go_wp2
        go_ret
        exact ⟨ret_int (by simp [statusI, HS.out]), hbw⟩
  · go_enter Try.func52, Try.ntmps52
    go_wp2_with (go_at_call 30; (with_reducible refine (eventsOk_any A n cap F _ hn HR.out).mono ?_); rintro e w1 ⟨rfl, hb1⟩; obtain ⟨hc1, hf1⟩ := bcell hb1; (try simp only [World.size_drew] at hc1 hf1); have hz1 := hb1.size; (try simp at hz1); (try have q1_0 : w.heap.size < w1.heap.size := by omega); (try have q1_1 : w.heap.size + 1 < w1.heap.size := by omega); (try have q1_2 : w.heap.size + 2 < w1.heap.size := by omega); (try have q1_3 : w.heap.size + 3 < w1.heap.size := by omega); (try have q1_4 : w.heap.size + 4 < w1.heap.size := by omega); (try have q1_0_0 : w0.heap.size < w1.heap.size := by omega); (try have q1_0_1 : w0.heap.size + 1 < w1.heap.size := by omega); (try have q1_2_0 : w2.heap.size < w1.heap.size := by omega); (try have q1_2_1 : w2.heap.size + 1 < w1.heap.size := by omega); (try have q1_3_0 : w3.heap.size < w1.heap.size := by omega); (try have q1_3_1 : w3.heap.size + 1 < w1.heap.size := by omega); (try have q1_4_0 : w4.heap.size < w1.heap.size := by omega); (try have q1_4_1 : w4.heap.size + 1 < w1.heap.size := by omega); (try have q1_5_0 : w5.heap.size < w1.heap.size := by omega); (try have q1_5_1 : w5.heap.size + 1 < w1.heap.size := by omega); (try have q1_6_0 : w6.heap.size < w1.heap.size := by omega); (try have q1_6_1 : w6.heap.size + 1 < w1.heap.size := by omega); (try have u1_b : b < w1.heap.size := by omega); (try have u1_q : q < w1.heap.size := by omega); (try have u1_g : g < w1.heap.size := by omega); (try have u1_g1 : g1 < w1.heap.size := by omega); (try have u1_g2 : g2 < w1.heap.size := by omega); (try have u1_g3 : g3 < w1.heap.size := by omega); (try have u1_g4 : g4 < w1.heap.size := by omega); (try have u1_g5 : g5 < w1.heap.size := by omega))
    go_ret
    exact ⟨ret_int (by simp [statusI, s1]), hb1⟩
end Go.Proofs.Ytgfcmeiffhffaaa
