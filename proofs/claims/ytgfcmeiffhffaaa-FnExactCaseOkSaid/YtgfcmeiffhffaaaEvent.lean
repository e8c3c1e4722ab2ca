/- Contracts of EventsOk, of the program and of the reference. -/
import Derived.Test.YtgfcmeiffhffaaaRec
import Derived.Test.YtgfcmeiffhffaaaStatusW
import Derived.Test.YtgfcmeiffhffaaaMonth
import Derived.BigQuiet
import Derived.Deep.QuietTactic
import Derived.Outline
namespace Go.Proofs.Ytgfcmeiffhffaaa
open Go.RowKit

/-- The status after the first m events. -/
def stN (F : Nat → Nat → Int) : Nat → Int
  | 0 => 0
  | m + 1 => stI (stN F m) (F m 0)
/-- Is event i right behind those before it? -/
def evB (F : Nat → Nat → Int) (i : Nat) : Bool := stB (stN F i) (F i 0) && inB (F i 1) 0 3599 && (decide (i = 0) || decide (F (i - 1) 1 < F i 1))
def eventsB (F : Nat → Nat → Int) (n : Nat) : Bool := allB (evB F) n && decide (n ≤ 30)
theorem eventsB_bad {F : Nat → Nat → Int} {n m : Nat} (hm : m < n) (h : evB F m = false) : eventsB F n = false := by
  simp [eventsB, allB_false hm h]
theorem eventsB_all {F : Nat → Nat → Int} {n : Nat} (h : ∀ i, i < n → evB F i = true) : eventsB F n = decide (n ≤ 30) := by
  have : allB (evB F) n = true := allB_iff.2 h
  simp [eventsB, this]
theorem eventsB_true {F : Nat → Nat → Int} {n : Nat} (h : eventsB F n = true) : (∀ i, i < n → evB F i = true) ∧ n ≤ 30 := by
  simp only [eventsB, Bool.and_eq_true, decide_eq_true_eq] at h
  exact ⟨allB_iff.1 h.1, h.2⟩
theorem evB_true {F : Nat → Nat → Int} {i : Nat} (h : evB F i = true) : stB (stN F i) (F i 0) = true ∧ inB (F i 1) 0 3599 = true ∧ (0 < i → F (i - 1) 1 < F i 1) := by
  simp only [evB, Bool.and_eq_true, Bool.or_eq_true, decide_eq_true_eq] at h
  exact ⟨h.1.1, h.1.2, fun h0 => by omega⟩
theorem events_mono {F : Nat → Nat → Int} {n : Nat} (h : eventsB F n = true) : ∀ d i, i + d < n → F i 1 ≤ F (i + d) 1
  | 0, i, _ => Int.le_refl _
  | d + 1, i, hi => by
    have h1 := events_mono h d i (by omega)
    have h2 := (evB_true ((eventsB_true h).1 (i + (d + 1)) hi)).2.2 (by omega)
    have : i + (d + 1) - 1 = i + d := by omega
    rw [this] at h2
    omega
theorem evs_snoc {F : Nat → Nat → Int} {m : Nat} (h : ∀ i, i < m → evB F i = true) (hp : evB F m = true) : ∀ i, i < m + 1 → evB F i = true := fun i hi => by
  rcases Nat.lt_or_ge i m with h1 | h1
  · exact h i h1
  · obtain rfl : i = m := by omega
    exact hp
set_option maxHeartbeats 2000000 in
theorem eventsOk_big (A : Option Addr) (n cap : Nat) (F : Nat → Nat → Int) (w : World) (hn : n ≤ 1048600) (hr : Recs w 2 A n F) :
    Calls Try.prog 30 #[.slice A n cap] w fun e w' => e = .returned (.bool (eventsB F n)) ∧ Below w.heap.size w w' := by
  have HR := Lib.hid hr
  clear hr
  go_enter Try.func30, Try.ntmps30
  go_wp2_with fail
  go_loopw [3, 9] (fun x i wr => ∃ m : Nat, m ≤ n ∧ i = .int .i64 m ∧ x = .int .i64 (stN F m) ∧ Below w.heap.size w wr ∧ Hid (∀ i, i < m → evB F i = true)) (fun _ i _ => n - (intOf i).toNat)
  case atStart => exact ⟨0, Nat.zero_le _, rfl, rfl, Below.refl _ _, fun i hi => by omega⟩
  case round =>
    obtain ⟨m, hm, rfl, rfl, hbw, hF⟩ := hrel
    by_cases hlt : m < n
    · obtain ⟨b, off, rfl, hb, c0, c1⟩ := HR.out.at2 hlt
      have d0 := (hbw.cell (p := ⟨b, off + m * 2, none⟩) hb).trans c0
      have d1 := (hbw.cell (p := ⟨b, off + m * 2 + 1, none⟩) hb).trans c1
      have hmi : (m : Int) < (n : Int) := by omega
      have hm0 : (0 : Int) ≤ (m : Int) := by omega
      have lb : b < wr.heap.size := Nat.lt_of_lt_of_le hb hbw.size
      have HB := Lib.hid hbw
      have hbs := hbw.size
      clear c0 c1 hbw hb
      rcases Bool.eq_false_or_eq_true (stB (stN F m) (F m 0)) with a1 | a1
      · rcases Bool.eq_false_or_eq_true (inB (F m 1) 0 3599) with a2 | a2
        · by_cases hz : m = 0
          · have hz2 : decide (0 < m) = false := by simp; omega
            have HZ := Lib.hid hz
            clear hz
            go_wp2_with (go_at_call 61; (with_reducible refine (statusAfter_any (stN F m) (F m 0) _).mono ?_); rintro e w' ⟨rfl, rfl⟩)
            go_big_quiet ((go_at_call 28; exact quiet_eq (monthOk_any (F m 1) _)))
            go_wp2
            (go_roundw; (case rel => exact ⟨m + 1, by omega, by go_num, rfl, (by have hbw := HB.out; first | exact below_drewN (by (repeat (first | with_reducible exact Below.refl _ _ | with_reducible refine Below.drew ?_ | (with_reducible refine Below.alloc ?_ ?hsz _; case hsz => ((try simp) <;> (try omega))) | (with_reducible refine Below.setCell ?_ ?hsz _; case hsz => ((try simp) <;> (try omega))) | (with_reducible refine below_step (by with_reducible assumption) ?hsz ?_; case hsz => ((try simp) <;> (try omega)))))) _ | (repeat (first | with_reducible exact Below.refl _ _ | with_reducible refine Below.drew ?_ | (with_reducible refine Below.alloc ?_ ?hsz _; case hsz => ((try simp) <;> (try omega))) | (with_reducible refine Below.setCell ?_ ?hsz _; case hsz => ((try simp) <;> (try omega))) | (with_reducible refine below_step (by with_reducible assumption) ?hsz ?_; case hsz => ((try simp) <;> (try omega)))))), evs_snoc hF.out (by have h0 : decide (m = 0) = true := decide_eq_true HZ.out; simp only [evB, a1, a2, h0, Bool.true_or, Bool.and_self] )⟩); (case measure => simp [intOf]; omega))
          · obtain ⟨b', off', e, hb, p0, p1⟩ := HR.out.at2 (show m - 1 < n by omega)
            cases e
            have g0 := (HB.out.cell (p := ⟨b, off + (m - 1) * 2, none⟩) hb).trans p0
            have g1 := (HB.out.cell (p := ⟨b, off + (m - 1) * 2 + 1, none⟩) hb).trans p1
            have hz' : (0 : Int) < (m : Int) := by omega
            have hz1 : (m : Int) - 1 < (n : Int) := by omega
            have hz2 : decide (0 < m) = true := by simp; omega
            have hz4 : IntKind.i64.wrap ((m : Int) - 1) = (m : Int) - 1 := by rw [IntKind.wrap_i64]; omega
            have hz5 : ((m : Int) - 1).toNat = m - 1 := by omega
            have hz6 : (0 : Int) ≤ (m : Int) - 1 := by omega
            clear p0 p1 hb
            rcases Bool.eq_false_or_eq_true (decide (F m 1 ≤ F (m - 1) 1)) with k1 | k1
            · go_wp2_with (go_at_call 61; (with_reducible refine (statusAfter_any (stN F m) (F m 0) _).mono ?_); rintro e w' ⟨rfl, rfl⟩)
              go_big_quiet ((go_at_call 28; exact quiet_eq (monthOk_any (F m 1) _)))
              go_wp2
              go_ret
              exact ⟨ret_bool (eventsB_bad hlt (by have h1 := of_decide_eq_true k1; have h2 : decide (F (m - 1) 1 < F m 1) = false := (by simp; omega); simp [evB, h2, hz] )).symm, (by have hbw := HB.out; first | exact below_drewN (by (repeat (first | with_reducible exact Below.refl _ _ | with_reducible refine Below.drew ?_ | (with_reducible refine Below.alloc ?_ ?hsz _; case hsz => ((try simp) <;> (try omega))) | (with_reducible refine Below.setCell ?_ ?hsz _; case hsz => ((try simp) <;> (try omega))) | (with_reducible refine below_step (by with_reducible assumption) ?hsz ?_; case hsz => ((try simp) <;> (try omega)))))) _ | (repeat (first | with_reducible exact Below.refl _ _ | with_reducible refine Below.drew ?_ | (with_reducible refine Below.alloc ?_ ?hsz _; case hsz => ((try simp) <;> (try omega))) | (with_reducible refine Below.setCell ?_ ?hsz _; case hsz => ((try simp) <;> (try omega))) | (with_reducible refine below_step (by with_reducible assumption) ?hsz ?_; case hsz => ((try simp) <;> (try omega))))))⟩
            · go_wp2_with (go_at_call 61; (with_reducible refine (statusAfter_any (stN F m) (F m 0) _).mono ?_); rintro e w' ⟨rfl, rfl⟩)
              go_big_quiet ((go_at_call 28; exact quiet_eq (monthOk_any (F m 1) _)))
              go_wp2
              (go_roundw; (case rel => exact ⟨m + 1, by omega, by go_num, rfl, (by have hbw := HB.out; first | exact below_drewN (by (repeat (first | with_reducible exact Below.refl _ _ | with_reducible refine Below.drew ?_ | (with_reducible refine Below.alloc ?_ ?hsz _; case hsz => ((try simp) <;> (try omega))) | (with_reducible refine Below.setCell ?_ ?hsz _; case hsz => ((try simp) <;> (try omega))) | (with_reducible refine below_step (by with_reducible assumption) ?hsz ?_; case hsz => ((try simp) <;> (try omega)))))) _ | (repeat (first | with_reducible exact Below.refl _ _ | with_reducible refine Below.drew ?_ | (with_reducible refine Below.alloc ?_ ?hsz _; case hsz => ((try simp) <;> (try omega))) | (with_reducible refine Below.setCell ?_ ?hsz _; case hsz => ((try simp) <;> (try omega))) | (with_reducible refine below_step (by with_reducible assumption) ?hsz ?_; case hsz => ((try simp) <;> (try omega)))))), evs_snoc hF.out (by have h1 := of_decide_eq_false k1; have h2 : decide (F (m - 1) 1 < F m 1) = true := (by simp; omega); simp only [evB, a1, a2, h2, Bool.or_true, Bool.and_self] )⟩); (case measure => simp [intOf]; omega))
        · go_wp2_with (go_at_call 61; (with_reducible refine (statusAfter_any (stN F m) (F m 0) _).mono ?_); rintro e w' ⟨rfl, rfl⟩)
          go_big_quiet ((go_at_call 28; exact quiet_eq (monthOk_any (F m 1) _)))
          go_wp2
          go_ret
          exact ⟨ret_bool (eventsB_bad hlt (by simp [evB, a2] )).symm, (by have hbw := HB.out; first | exact below_drewN (by (repeat (first | with_reducible exact Below.refl _ _ | with_reducible refine Below.drew ?_ | (with_reducible refine Below.alloc ?_ ?hsz _; case hsz => ((try simp) <;> (try omega))) | (with_reducible refine Below.setCell ?_ ?hsz _; case hsz => ((try simp) <;> (try omega))) | (with_reducible refine below_step (by with_reducible assumption) ?hsz ?_; case hsz => ((try simp) <;> (try omega)))))) _ | (repeat (first | with_reducible exact Below.refl _ _ | with_reducible refine Below.drew ?_ | (with_reducible refine Below.alloc ?_ ?hsz _; case hsz => ((try simp) <;> (try omega))) | (with_reducible refine Below.setCell ?_ ?hsz _; case hsz => ((try simp) <;> (try omega))) | (with_reducible refine below_step (by with_reducible assumption) ?hsz ?_; case hsz => ((try simp) <;> (try omega))))))⟩
      · go_wp2_with (go_at_call 61; (with_reducible refine (statusAfter_any (stN F m) (F m 0) _).mono ?_); rintro e w' ⟨rfl, rfl⟩)
        go_big_quiet ((go_at_call 28; exact quiet_eq (monthOk_any (F m 1) _)))
        go_wp2
        go_ret
        exact ⟨ret_bool (eventsB_bad hlt (by simp [evB, a1] )).symm, (by have hbw := HB.out; first | exact below_drewN (by (repeat (first | with_reducible exact Below.refl _ _ | with_reducible refine Below.drew ?_ | (with_reducible refine Below.alloc ?_ ?hsz _; case hsz => ((try simp) <;> (try omega))) | (with_reducible refine Below.setCell ?_ ?hsz _; case hsz => ((try simp) <;> (try omega))) | (with_reducible refine below_step (by with_reducible assumption) ?hsz ?_; case hsz => ((try simp) <;> (try omega)))))) _ | (repeat (first | with_reducible exact Below.refl _ _ | with_reducible refine Below.drew ?_ | (with_reducible refine Below.alloc ?_ ?hsz _; case hsz => ((try simp) <;> (try omega))) | (with_reducible refine Below.setCell ?_ ?hsz _; case hsz => ((try simp) <;> (try omega))) | (with_reducible refine below_step (by with_reducible assumption) ?hsz ?_; case hsz => ((try simp) <;> (try omega))))))⟩
    · obtain rfl : m = n := by omega
      go_wp2
      go_ret
      exact ⟨ret_bool (by rw [eventsB_all hF.out]; first | rfl | (simp; done) | (simp; omega)), hbw⟩
set_option maxHeartbeats 2000000 in
theorem seventsOk_big (A : Option Addr) (n cap : Nat) (F : Nat → Nat → Int) (w : World) (hn : n ≤ 1048600) (hr : Recs w 2 A n F) :
    Calls Try.prog 25 #[.slice A n cap] w fun e w' => e = .returned (.bool (eventsB F n)) ∧ Below w.heap.size w w' := by
  have HR := Lib.hid hr
  clear hr
  go_enter Try.func25, Try.ntmps25
  go_wp2_with fail
  go_loopw [3, 4] (fun x i wr => ∃ m : Nat, m ≤ n ∧ i = .int .i64 m ∧ x = .int .i64 (stN F m) ∧ Below w.heap.size w wr ∧ Hid (∀ i, i < m → evB F i = true)) (fun _ i _ => n - (intOf i).toNat)
  case atStart => exact ⟨0, Nat.zero_le _, rfl, rfl, Below.refl _ _, fun i hi => by omega⟩
  case round =>
    obtain ⟨m, hm, rfl, rfl, hbw, hF⟩ := hrel
    by_cases hlt : m < n
    · obtain ⟨b, off, rfl, hb, c0, c1⟩ := HR.out.at2 hlt
      have d0 := (hbw.cell (p := ⟨b, off + m * 2, none⟩) hb).trans c0
      have d1 := (hbw.cell (p := ⟨b, off + m * 2 + 1, none⟩) hb).trans c1
      have hmi : (m : Int) < (n : Int) := by omega
      have hm0 : (0 : Int) ≤ (m : Int) := by omega
      have lb : b < wr.heap.size := Nat.lt_of_lt_of_le hb hbw.size
      have HB := Lib.hid hbw
      have hbs := hbw.size
      clear c0 c1 hbw hb
      rcases Bool.eq_false_or_eq_true (stB (stN F m) (F m 0)) with a1 | a1
      · rcases Bool.eq_false_or_eq_true (inB (F m 1) 0 3599) with a2 | a2
        · by_cases hz : m = 0
          · have hz2 : decide (0 < m) = false := by simp; omega
            have HZ := Lib.hid hz
            clear hz
            go_wp2_with (go_at_call 56; (with_reducible refine (sstatusAfter_any (stN F m) (F m 0) _).mono ?_); rintro e w' ⟨rfl, rfl⟩)
            go_big_quiet ((go_at_call 23; exact quiet_eq (smonthOk_any (F m 1) _)))
            go_wp2
            (go_roundw; (case rel => exact ⟨m + 1, by omega, by go_num, rfl, (by have hbw := HB.out; first | exact below_drewN (by (repeat (first | with_reducible exact Below.refl _ _ | with_reducible refine Below.drew ?_ | (with_reducible refine Below.alloc ?_ ?hsz _; case hsz => ((try simp) <;> (try omega))) | (with_reducible refine Below.setCell ?_ ?hsz _; case hsz => ((try simp) <;> (try omega))) | (with_reducible refine below_step (by with_reducible assumption) ?hsz ?_; case hsz => ((try simp) <;> (try omega)))))) _ | (repeat (first | with_reducible exact Below.refl _ _ | with_reducible refine Below.drew ?_ | (with_reducible refine Below.alloc ?_ ?hsz _; case hsz => ((try simp) <;> (try omega))) | (with_reducible refine Below.setCell ?_ ?hsz _; case hsz => ((try simp) <;> (try omega))) | (with_reducible refine below_step (by with_reducible assumption) ?hsz ?_; case hsz => ((try simp) <;> (try omega)))))), evs_snoc hF.out (by have h0 : decide (m = 0) = true := decide_eq_true HZ.out; simp only [evB, a1, a2, h0, Bool.true_or, Bool.and_self] )⟩); (case measure => simp [intOf]; omega))
          · obtain ⟨b', off', e, hb, p0, p1⟩ := HR.out.at2 (show m - 1 < n by omega)
            cases e
            have g0 := (HB.out.cell (p := ⟨b, off + (m - 1) * 2, none⟩) hb).trans p0
            have g1 := (HB.out.cell (p := ⟨b, off + (m - 1) * 2 + 1, none⟩) hb).trans p1
            have hz' : (0 : Int) < (m : Int) := by omega
            have hz1 : (m : Int) - 1 < (n : Int) := by omega
            have hz2 : decide (0 < m) = true := by simp; omega
            have hz4 : IntKind.i64.wrap ((m : Int) - 1) = (m : Int) - 1 := by rw [IntKind.wrap_i64]; omega
            have hz5 : ((m : Int) - 1).toNat = m - 1 := by omega
            have hz6 : (0 : Int) ≤ (m : Int) - 1 := by omega
            clear p0 p1 hb
            rcases Bool.eq_false_or_eq_true (decide (F m 1 ≤ F (m - 1) 1)) with k1 | k1
            · go_wp2_with (go_at_call 56; (with_reducible refine (sstatusAfter_any (stN F m) (F m 0) _).mono ?_); rintro e w' ⟨rfl, rfl⟩)
              go_big_quiet ((go_at_call 23; exact quiet_eq (smonthOk_any (F m 1) _)))
              go_wp2
              go_ret
              exact ⟨ret_bool (eventsB_bad hlt (by have h1 := of_decide_eq_true k1; have h2 : decide (F (m - 1) 1 < F m 1) = false := (by simp; omega); simp [evB, h2, hz] )).symm, (by have hbw := HB.out; first | exact below_drewN (by (repeat (first | with_reducible exact Below.refl _ _ | with_reducible refine Below.drew ?_ | (with_reducible refine Below.alloc ?_ ?hsz _; case hsz => ((try simp) <;> (try omega))) | (with_reducible refine Below.setCell ?_ ?hsz _; case hsz => ((try simp) <;> (try omega))) | (with_reducible refine below_step (by with_reducible assumption) ?hsz ?_; case hsz => ((try simp) <;> (try omega)))))) _ | (repeat (first | with_reducible exact Below.refl _ _ | with_reducible refine Below.drew ?_ | (with_reducible refine Below.alloc ?_ ?hsz _; case hsz => ((try simp) <;> (try omega))) | (with_reducible refine Below.setCell ?_ ?hsz _; case hsz => ((try simp) <;> (try omega))) | (with_reducible refine below_step (by with_reducible assumption) ?hsz ?_; case hsz => ((try simp) <;> (try omega))))))⟩
            · go_wp2_with (go_at_call 56; (with_reducible refine (sstatusAfter_any (stN F m) (F m 0) _).mono ?_); rintro e w' ⟨rfl, rfl⟩)
              go_big_quiet ((go_at_call 23; exact quiet_eq (smonthOk_any (F m 1) _)))
              go_wp2
              (go_roundw; (case rel => exact ⟨m + 1, by omega, by go_num, rfl, (by have hbw := HB.out; first | exact below_drewN (by (repeat (first | with_reducible exact Below.refl _ _ | with_reducible refine Below.drew ?_ | (with_reducible refine Below.alloc ?_ ?hsz _; case hsz => ((try simp) <;> (try omega))) | (with_reducible refine Below.setCell ?_ ?hsz _; case hsz => ((try simp) <;> (try omega))) | (with_reducible refine below_step (by with_reducible assumption) ?hsz ?_; case hsz => ((try simp) <;> (try omega)))))) _ | (repeat (first | with_reducible exact Below.refl _ _ | with_reducible refine Below.drew ?_ | (with_reducible refine Below.alloc ?_ ?hsz _; case hsz => ((try simp) <;> (try omega))) | (with_reducible refine Below.setCell ?_ ?hsz _; case hsz => ((try simp) <;> (try omega))) | (with_reducible refine below_step (by with_reducible assumption) ?hsz ?_; case hsz => ((try simp) <;> (try omega)))))), evs_snoc hF.out (by have h1 := of_decide_eq_false k1; have h2 : decide (F (m - 1) 1 < F m 1) = true := (by simp; omega); simp only [evB, a1, a2, h2, Bool.or_true, Bool.and_self] )⟩); (case measure => simp [intOf]; omega))
        · go_wp2_with (go_at_call 56; (with_reducible refine (sstatusAfter_any (stN F m) (F m 0) _).mono ?_); rintro e w' ⟨rfl, rfl⟩)
          go_big_quiet ((go_at_call 23; exact quiet_eq (smonthOk_any (F m 1) _)))
          go_wp2
          go_ret
          exact ⟨ret_bool (eventsB_bad hlt (by simp [evB, a2] )).symm, (by have hbw := HB.out; first | exact below_drewN (by (repeat (first | with_reducible exact Below.refl _ _ | with_reducible refine Below.drew ?_ | (with_reducible refine Below.alloc ?_ ?hsz _; case hsz => ((try simp) <;> (try omega))) | (with_reducible refine Below.setCell ?_ ?hsz _; case hsz => ((try simp) <;> (try omega))) | (with_reducible refine below_step (by with_reducible assumption) ?hsz ?_; case hsz => ((try simp) <;> (try omega)))))) _ | (repeat (first | with_reducible exact Below.refl _ _ | with_reducible refine Below.drew ?_ | (with_reducible refine Below.alloc ?_ ?hsz _; case hsz => ((try simp) <;> (try omega))) | (with_reducible refine Below.setCell ?_ ?hsz _; case hsz => ((try simp) <;> (try omega))) | (with_reducible refine below_step (by with_reducible assumption) ?hsz ?_; case hsz => ((try simp) <;> (try omega))))))⟩
      · go_wp2_with (go_at_call 56; (with_reducible refine (sstatusAfter_any (stN F m) (F m 0) _).mono ?_); rintro e w' ⟨rfl, rfl⟩)
        go_big_quiet ((go_at_call 23; exact quiet_eq (smonthOk_any (F m 1) _)))
        go_wp2
        go_ret
        exact ⟨ret_bool (eventsB_bad hlt (by simp [evB, a1] )).symm, (by have hbw := HB.out; first | exact below_drewN (by (repeat (first | with_reducible exact Below.refl _ _ | with_reducible refine Below.drew ?_ | (with_reducible refine Below.alloc ?_ ?hsz _; case hsz => ((try simp) <;> (try omega))) | (with_reducible refine Below.setCell ?_ ?hsz _; case hsz => ((try simp) <;> (try omega))) | (with_reducible refine below_step (by with_reducible assumption) ?hsz ?_; case hsz => ((try simp) <;> (try omega)))))) _ | (repeat (first | with_reducible exact Below.refl _ _ | with_reducible refine Below.drew ?_ | (with_reducible refine Below.alloc ?_ ?hsz _; case hsz => ((try simp) <;> (try omega))) | (with_reducible refine Below.setCell ?_ ?hsz _; case hsz => ((try simp) <;> (try omega))) | (with_reducible refine below_step (by with_reducible assumption) ?hsz ?_; case hsz => ((try simp) <;> (try omega))))))⟩
    · obtain rfl : m = n := by omega
      go_wp2
      go_ret
      exact ⟨ret_bool (by rw [eventsB_all hF.out]; first | rfl | (simp; done) | (simp; omega)), hbw⟩
theorem eventsOk_any (A : Option Addr) (n cap : Nat) (F : Nat → Nat → Int) (w : World) (hn : n ≤ 1048576) (hr : Recs w 2 A n F) :
    Calls Try.prog 30 #[.slice A n cap] w fun e w' => e = .returned (.bool (eventsB F n)) ∧ Below w.heap.size w w' := eventsOk_big A n cap F w (by omega) hr
theorem seventsOk_any (A : Option Addr) (n cap : Nat) (F : Nat → Nat → Int) (w : World) (hn : n ≤ 1048576) (hr : Recs w 2 A n F) :
    Calls Try.prog 25 #[.slice A n cap] w fun e w' => e = .returned (.bool (eventsB F n)) ∧ Below w.heap.size w w' := seventsOk_big A n cap F w (by omega) hr
end Go.Proofs.Ytgfcmeiffhffaaa
