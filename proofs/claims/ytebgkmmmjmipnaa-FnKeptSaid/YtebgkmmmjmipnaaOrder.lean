/- Contracts of OrdersOk, of the program and of the reference. -/
import Derived.Test.YtebgkmmmjmipnaaRec
import Derived.Test.YtebgkmmmjmipnaaMonth
import Derived.BigQuiet
import Derived.Deep.QuietTactic
import Derived.Outline
namespace Go.Proofs.Ytebgkmmmjmipnaa
open Go.RowKit

/-- Is order i right, and not known before the one ahead of it? -/
def orderB (F : Nat → Nat → Int) (i : Nat) : Bool := inB (F i 0) 0 3599 && inB (F i 1) 0 3599 && inB (F i 2) 0 100 && (decide (i = 0) || decide (F (i - 1) 1 ≤ F i 1))
def ordersB (F : Nat → Nat → Int) (n : Nat) : Bool := allB (orderB F) n && decide (n ≤ 10)
theorem ordersB_bad {F : Nat → Nat → Int} {n m : Nat} (hm : m < n) (h : orderB F m = false) : ordersB F n = false := by
  simp [ordersB, allB_false hm h]
theorem ordersB_all {F : Nat → Nat → Int} {n : Nat} (h : ∀ i, i < n → orderB F i = true) : ordersB F n = decide (n ≤ 10) := by
  have : allB (orderB F) n = true := allB_iff.2 h
  simp [ordersB, this]
theorem ordersB_true {F : Nat → Nat → Int} {n : Nat} (h : ordersB F n = true) : (∀ i, i < n → orderB F i = true) ∧ n ≤ 10 := by
  simp only [ordersB, Bool.and_eq_true, decide_eq_true_eq] at h
  exact ⟨allB_iff.1 h.1, h.2⟩
theorem orderB_true {F : Nat → Nat → Int} {i : Nat} (h : orderB F i = true) : (0 ≤ F i 0 ∧ F i 0 ≤ 3599) ∧ (0 ≤ F i 1 ∧ F i 1 ≤ 3599) ∧ (0 ≤ F i 2 ∧ F i 2 ≤ 100) ∧ (0 < i → F (i - 1) 1 ≤ F i 1) := by
  simp only [orderB, Bool.and_eq_true, Bool.or_eq_true, decide_eq_true_eq] at h
  exact ⟨inB_true.1 h.1.1.1, inB_true.1 h.1.1.2, inB_true.1 h.1.2, fun h0 => by omega⟩
theorem orders_snoc {F : Nat → Nat → Int} {m : Nat} (h : ∀ i, i < m → orderB F i = true) (hp : orderB F m = true) : ∀ i, i < m + 1 → orderB F i = true := fun i hi => by
  rcases Nat.lt_or_ge i m with h1 | h1
  · exact h i h1
  · obtain rfl : i = m := by omega
    exact hp
set_option maxHeartbeats 4000000 in
theorem ordersOk_any (A : Option Addr) (n cap : Nat) (F : Nat → Nat → Int) (w : World) (hn : n ≤ 1048576) (hr : Recs w 3 A n F) :
    Calls Try.prog 14 #[.slice A n cap] w fun e w' => e = .returned (.bool (ordersB F n)) ∧ Below w.heap.size w w' := by
  have HR := Lib.hid hr
  clear hr
  go_enter Try.func14, Try.ntmps14
  go_wp2_with fail
  go_loopw [7] (fun i wr => ∃ m : Nat, m ≤ n ∧ i = .int .i64 m ∧ Below w.heap.size w wr ∧ Hid (∀ i, i < m → orderB F i = true)) (fun i _ => n - (intOf i).toNat)
  case atStart => exact ⟨0, Nat.zero_le _, rfl, Below.refl _ _, fun i hi => by omega⟩
  case round =>
    obtain ⟨m, hm, rfl, hbw, hF⟩ := hrel
    by_cases hlt : m < n
    · obtain ⟨b, off, rfl, hb, c0, c1, c2⟩ := HR.out.at3 hlt
      have d0 := (hbw.cell (p := ⟨b, off + m * 3, none⟩) hb).trans c0
      have d1 := (hbw.cell (p := ⟨b, off + m * 3 + 1, none⟩) hb).trans c1
      have d2 := (hbw.cell (p := ⟨b, off + m * 3 + 2, none⟩) hb).trans c2
      have hmi : (m : Int) < (n : Int) := by omega
      have hm0 : (0 : Int) ≤ (m : Int) := by omega
      have lb : b < wr.heap.size := Nat.lt_of_lt_of_le hb hbw.size
      have HB := Lib.hid hbw
      have hbs := hbw.size
      clear c0 c1 c2 hbw hb
      rcases Bool.eq_false_or_eq_true (inB (F m 0) 0 3599) with a1 | a1
      · rcases Bool.eq_false_or_eq_true (inB (F m 1) 0 3599) with a2 | a2
        · rcases Bool.eq_false_or_eq_true (inB (F m 2) 0 100) with a3 | a3
          · by_cases hz : m = 0
            · have hz2 : decide (0 < m) = false := by simp; omega
              have HZ := Lib.hid hz
              clear hz
              go_wp2_with fail
              go_big_quiet (first | (go_at_call 36; exact quiet_eq (monthOk_any (F m 0) _)) | (go_at_call 36; exact quiet_eq (monthOk_any (F m 1) _)) | (go_at_call 37; exact quiet_eq (within_any (F m 2) 0 100 _)))
              go_wp2
              (go_roundw; (case rel => exact ⟨m + 1, by omega, by go_num, (by have hbw := HB.out; first | exact below_drewN (by (repeat (first | with_reducible exact Below.refl _ _ | with_reducible refine Below.drew ?_ | (with_reducible refine Below.alloc ?_ ?hsz _; case hsz => ((try simp) <;> (try omega))) | (with_reducible refine Below.setCell ?_ ?hsz _; case hsz => ((try simp) <;> (try omega))) | (with_reducible refine below_step (by with_reducible assumption) ?hsz ?_; case hsz => ((try simp) <;> (try omega)))))) _ | (repeat (first | with_reducible exact Below.refl _ _ | with_reducible refine Below.drew ?_ | (with_reducible refine Below.alloc ?_ ?hsz _; case hsz => ((try simp) <;> (try omega))) | (with_reducible refine Below.setCell ?_ ?hsz _; case hsz => ((try simp) <;> (try omega))) | (with_reducible refine below_step (by with_reducible assumption) ?hsz ?_; case hsz => ((try simp) <;> (try omega)))))), orders_snoc hF.out (by have h0 : decide (m = 0) = true := decide_eq_true HZ.out; simp only [orderB, a1, a2, a3, h0, Bool.true_or, Bool.and_self] )⟩); (case measure => simp [intOf]; omega))
            · obtain ⟨b', off', e, hb, p0, p1, p2⟩ := HR.out.at3 (show m - 1 < n by omega)
              cases e
              have g0 := (HB.out.cell (p := ⟨b, off + (m - 1) * 3, none⟩) hb).trans p0
              have g1 := (HB.out.cell (p := ⟨b, off + (m - 1) * 3 + 1, none⟩) hb).trans p1
              have hz' : (0 : Int) < (m : Int) := by omega
              have hz1 : (m : Int) - 1 < (n : Int) := by omega
              have hz2 : decide (0 < m) = true := by simp; omega
              have hz4 : IntKind.i64.wrap ((m : Int) - 1) = (m : Int) - 1 := by rw [IntKind.wrap_i64]; omega
              have hz5 : ((m : Int) - 1).toNat = m - 1 := by omega
              have hz6 : (0 : Int) ≤ (m : Int) - 1 := by omega
              clear p0 p1 p2 hb
              rcases Bool.eq_false_or_eq_true (decide (F m 1 < F (m - 1) 1)) with k1 | k1
              · go_wp2_with fail
                go_big_quiet (first | (go_at_call 36; exact quiet_eq (monthOk_any (F m 0) _)) | (go_at_call 36; exact quiet_eq (monthOk_any (F m 1) _)) | (go_at_call 37; exact quiet_eq (within_any (F m 2) 0 100 _)))
                go_wp2
                go_ret
                exact ⟨ret_bool (ordersB_bad hlt (by have h1 := of_decide_eq_true k1; have h2 : decide (F (m - 1) 1 ≤ F m 1) = false := (by simp; omega); simp [orderB, h2, hz] )).symm, (by have hbw := HB.out; first | exact below_drewN (by (repeat (first | with_reducible exact Below.refl _ _ | with_reducible refine Below.drew ?_ | (with_reducible refine Below.alloc ?_ ?hsz _; case hsz => ((try simp) <;> (try omega))) | (with_reducible refine Below.setCell ?_ ?hsz _; case hsz => ((try simp) <;> (try omega))) | (with_reducible refine below_step (by with_reducible assumption) ?hsz ?_; case hsz => ((try simp) <;> (try omega)))))) _ | (repeat (first | with_reducible exact Below.refl _ _ | with_reducible refine Below.drew ?_ | (with_reducible refine Below.alloc ?_ ?hsz _; case hsz => ((try simp) <;> (try omega))) | (with_reducible refine Below.setCell ?_ ?hsz _; case hsz => ((try simp) <;> (try omega))) | (with_reducible refine below_step (by with_reducible assumption) ?hsz ?_; case hsz => ((try simp) <;> (try omega))))))⟩
              · go_wp2_with fail
                go_big_quiet (first | (go_at_call 36; exact quiet_eq (monthOk_any (F m 0) _)) | (go_at_call 36; exact quiet_eq (monthOk_any (F m 1) _)) | (go_at_call 37; exact quiet_eq (within_any (F m 2) 0 100 _)))
                go_wp2
                (go_roundw; (case rel => exact ⟨m + 1, by omega, by go_num, (by have hbw := HB.out; first | exact below_drewN (by (repeat (first | with_reducible exact Below.refl _ _ | with_reducible refine Below.drew ?_ | (with_reducible refine Below.alloc ?_ ?hsz _; case hsz => ((try simp) <;> (try omega))) | (with_reducible refine Below.setCell ?_ ?hsz _; case hsz => ((try simp) <;> (try omega))) | (with_reducible refine below_step (by with_reducible assumption) ?hsz ?_; case hsz => ((try simp) <;> (try omega)))))) _ | (repeat (first | with_reducible exact Below.refl _ _ | with_reducible refine Below.drew ?_ | (with_reducible refine Below.alloc ?_ ?hsz _; case hsz => ((try simp) <;> (try omega))) | (with_reducible refine Below.setCell ?_ ?hsz _; case hsz => ((try simp) <;> (try omega))) | (with_reducible refine below_step (by with_reducible assumption) ?hsz ?_; case hsz => ((try simp) <;> (try omega)))))), orders_snoc hF.out (by have h1 := of_decide_eq_false k1; have h2 : decide (F (m - 1) 1 ≤ F m 1) = true := (by simp; omega); simp only [orderB, a1, a2, a3, h2, Bool.or_true, Bool.and_self] )⟩); (case measure => simp [intOf]; omega))
          · go_wp2_with fail
            go_big_quiet (first | (go_at_call 36; exact quiet_eq (monthOk_any (F m 0) _)) | (go_at_call 36; exact quiet_eq (monthOk_any (F m 1) _)) | (go_at_call 37; exact quiet_eq (within_any (F m 2) 0 100 _)))
            go_wp2
            go_ret
            exact ⟨ret_bool (ordersB_bad hlt (by simp [orderB, a3] )).symm, (by have hbw := HB.out; first | exact below_drewN (by (repeat (first | with_reducible exact Below.refl _ _ | with_reducible refine Below.drew ?_ | (with_reducible refine Below.alloc ?_ ?hsz _; case hsz => ((try simp) <;> (try omega))) | (with_reducible refine Below.setCell ?_ ?hsz _; case hsz => ((try simp) <;> (try omega))) | (with_reducible refine below_step (by with_reducible assumption) ?hsz ?_; case hsz => ((try simp) <;> (try omega)))))) _ | (repeat (first | with_reducible exact Below.refl _ _ | with_reducible refine Below.drew ?_ | (with_reducible refine Below.alloc ?_ ?hsz _; case hsz => ((try simp) <;> (try omega))) | (with_reducible refine Below.setCell ?_ ?hsz _; case hsz => ((try simp) <;> (try omega))) | (with_reducible refine below_step (by with_reducible assumption) ?hsz ?_; case hsz => ((try simp) <;> (try omega))))))⟩
        · go_wp2_with fail
          go_big_quiet (first | (go_at_call 36; exact quiet_eq (monthOk_any (F m 0) _)) | (go_at_call 36; exact quiet_eq (monthOk_any (F m 1) _)) | (go_at_call 37; exact quiet_eq (within_any (F m 2) 0 100 _)))
          go_wp2
          go_ret
          exact ⟨ret_bool (ordersB_bad hlt (by simp [orderB, a2] )).symm, (by have hbw := HB.out; first | exact below_drewN (by (repeat (first | with_reducible exact Below.refl _ _ | with_reducible refine Below.drew ?_ | (with_reducible refine Below.alloc ?_ ?hsz _; case hsz => ((try simp) <;> (try omega))) | (with_reducible refine Below.setCell ?_ ?hsz _; case hsz => ((try simp) <;> (try omega))) | (with_reducible refine below_step (by with_reducible assumption) ?hsz ?_; case hsz => ((try simp) <;> (try omega)))))) _ | (repeat (first | with_reducible exact Below.refl _ _ | with_reducible refine Below.drew ?_ | (with_reducible refine Below.alloc ?_ ?hsz _; case hsz => ((try simp) <;> (try omega))) | (with_reducible refine Below.setCell ?_ ?hsz _; case hsz => ((try simp) <;> (try omega))) | (with_reducible refine below_step (by with_reducible assumption) ?hsz ?_; case hsz => ((try simp) <;> (try omega))))))⟩
      · go_wp2_with fail
        go_big_quiet (first | (go_at_call 36; exact quiet_eq (monthOk_any (F m 0) _)) | (go_at_call 36; exact quiet_eq (monthOk_any (F m 1) _)) | (go_at_call 37; exact quiet_eq (within_any (F m 2) 0 100 _)))
        go_wp2
        go_ret
        exact ⟨ret_bool (ordersB_bad hlt (by simp [orderB, a1] )).symm, (by have hbw := HB.out; first | exact below_drewN (by (repeat (first | with_reducible exact Below.refl _ _ | with_reducible refine Below.drew ?_ | (with_reducible refine Below.alloc ?_ ?hsz _; case hsz => ((try simp) <;> (try omega))) | (with_reducible refine Below.setCell ?_ ?hsz _; case hsz => ((try simp) <;> (try omega))) | (with_reducible refine below_step (by with_reducible assumption) ?hsz ?_; case hsz => ((try simp) <;> (try omega)))))) _ | (repeat (first | with_reducible exact Below.refl _ _ | with_reducible refine Below.drew ?_ | (with_reducible refine Below.alloc ?_ ?hsz _; case hsz => ((try simp) <;> (try omega))) | (with_reducible refine Below.setCell ?_ ?hsz _; case hsz => ((try simp) <;> (try omega))) | (with_reducible refine below_step (by with_reducible assumption) ?hsz ?_; case hsz => ((try simp) <;> (try omega))))))⟩
    · obtain rfl : m = n := by omega
      go_wp2
      go_ret
      exact ⟨ret_bool (by rw [ordersB_all hF.out]; first | rfl | (simp; done) | (simp; omega)), hbw⟩
set_option maxHeartbeats 4000000 in
theorem sordersOk_any (A : Option Addr) (n cap : Nat) (F : Nat → Nat → Int) (w : World) (hn : n ≤ 1048576) (hr : Recs w 3 A n F) :
    Calls Try.prog 12 #[.slice A n cap] w fun e w' => e = .returned (.bool (ordersB F n)) ∧ Below w.heap.size w w' := by
  have HR := Lib.hid hr
  clear hr
  go_enter Try.func12, Try.ntmps12
  go_wp2_with fail
  go_loopw [3] (fun i wr => ∃ m : Nat, m ≤ n ∧ i = .int .i64 m ∧ Below w.heap.size w wr ∧ Hid (∀ i, i < m → orderB F i = true)) (fun i _ => n - (intOf i).toNat)
  case atStart => exact ⟨0, Nat.zero_le _, rfl, Below.refl _ _, fun i hi => by omega⟩
  case round =>
    obtain ⟨m, hm, rfl, hbw, hF⟩ := hrel
    by_cases hlt : m < n
    · obtain ⟨b, off, rfl, hb, c0, c1, c2⟩ := HR.out.at3 hlt
      have d0 := (hbw.cell (p := ⟨b, off + m * 3, none⟩) hb).trans c0
      have d1 := (hbw.cell (p := ⟨b, off + m * 3 + 1, none⟩) hb).trans c1
      have d2 := (hbw.cell (p := ⟨b, off + m * 3 + 2, none⟩) hb).trans c2
      have hmi : (m : Int) < (n : Int) := by omega
      have hm0 : (0 : Int) ≤ (m : Int) := by omega
      have lb : b < wr.heap.size := Nat.lt_of_lt_of_le hb hbw.size
      have HB := Lib.hid hbw
      have hbs := hbw.size
      clear c0 c1 c2 hbw hb
      rcases Bool.eq_false_or_eq_true (inB (F m 0) 0 3599) with a1 | a1
      · rcases Bool.eq_false_or_eq_true (inB (F m 1) 0 3599) with a2 | a2
        · rcases Bool.eq_false_or_eq_true (inB (F m 2) 0 100) with a3 | a3
          · by_cases hz : m = 0
            · have hz2 : decide (0 < m) = false := by simp; omega
              have HZ := Lib.hid hz
              clear hz
              go_wp2_with fail
              go_big_quiet (first | (go_at_call 33; exact quiet_eq (smonthOk_any (F m 0) _)) | (go_at_call 33; exact quiet_eq (smonthOk_any (F m 1) _)) | (go_at_call 34; exact quiet_eq (l01In_any (F m 2) 0 100 _)))
              go_wp2
              (go_roundw; (case rel => exact ⟨m + 1, by omega, by go_num, (by have hbw := HB.out; first | exact below_drewN (by (repeat (first | with_reducible exact Below.refl _ _ | with_reducible refine Below.drew ?_ | (with_reducible refine Below.alloc ?_ ?hsz _; case hsz => ((try simp) <;> (try omega))) | (with_reducible refine Below.setCell ?_ ?hsz _; case hsz => ((try simp) <;> (try omega))) | (with_reducible refine below_step (by with_reducible assumption) ?hsz ?_; case hsz => ((try simp) <;> (try omega)))))) _ | (repeat (first | with_reducible exact Below.refl _ _ | with_reducible refine Below.drew ?_ | (with_reducible refine Below.alloc ?_ ?hsz _; case hsz => ((try simp) <;> (try omega))) | (with_reducible refine Below.setCell ?_ ?hsz _; case hsz => ((try simp) <;> (try omega))) | (with_reducible refine below_step (by with_reducible assumption) ?hsz ?_; case hsz => ((try simp) <;> (try omega)))))), orders_snoc hF.out (by have h0 : decide (m = 0) = true := decide_eq_true HZ.out; simp only [orderB, a1, a2, a3, h0, Bool.true_or, Bool.and_self] )⟩); (case measure => simp [intOf]; omega))
            · obtain ⟨b', off', e, hb, p0, p1, p2⟩ := HR.out.at3 (show m - 1 < n by omega)
              cases e
              have g0 := (HB.out.cell (p := ⟨b, off + (m - 1) * 3, none⟩) hb).trans p0
              have g1 := (HB.out.cell (p := ⟨b, off + (m - 1) * 3 + 1, none⟩) hb).trans p1
              have hz' : (0 : Int) < (m : Int) := by omega
              have hz1 : (m : Int) - 1 < (n : Int) := by omega
              have hz2 : decide (0 < m) = true := by simp; omega
              have hz4 : IntKind.i64.wrap ((m : Int) - 1) = (m : Int) - 1 := by rw [IntKind.wrap_i64]; omega
              have hz5 : ((m : Int) - 1).toNat = m - 1 := by omega
              have hz6 : (0 : Int) ≤ (m : Int) - 1 := by omega
              clear p0 p1 p2 hb
              rcases Bool.eq_false_or_eq_true (decide (F m 1 < F (m - 1) 1)) with k1 | k1
              · go_wp2_with fail
                go_big_quiet (first | (go_at_call 33; exact quiet_eq (smonthOk_any (F m 0) _)) | (go_at_call 33; exact quiet_eq (smonthOk_any (F m 1) _)) | (go_at_call 34; exact quiet_eq (l01In_any (F m 2) 0 100 _)))
                go_wp2
                go_ret
                exact ⟨ret_bool (ordersB_bad hlt (by have h1 := of_decide_eq_true k1; have h2 : decide (F (m - 1) 1 ≤ F m 1) = false := (by simp; omega); simp [orderB, h2, hz] )).symm, (by have hbw := HB.out; first | exact below_drewN (by (repeat (first | with_reducible exact Below.refl _ _ | with_reducible refine Below.drew ?_ | (with_reducible refine Below.alloc ?_ ?hsz _; case hsz => ((try simp) <;> (try omega))) | (with_reducible refine Below.setCell ?_ ?hsz _; case hsz => ((try simp) <;> (try omega))) | (with_reducible refine below_step (by with_reducible assumption) ?hsz ?_; case hsz => ((try simp) <;> (try omega)))))) _ | (repeat (first | with_reducible exact Below.refl _ _ | with_reducible refine Below.drew ?_ | (with_reducible refine Below.alloc ?_ ?hsz _; case hsz => ((try simp) <;> (try omega))) | (with_reducible refine Below.setCell ?_ ?hsz _; case hsz => ((try simp) <;> (try omega))) | (with_reducible refine below_step (by with_reducible assumption) ?hsz ?_; case hsz => ((try simp) <;> (try omega))))))⟩
              · go_wp2_with fail
                go_big_quiet (first | (go_at_call 33; exact quiet_eq (smonthOk_any (F m 0) _)) | (go_at_call 33; exact quiet_eq (smonthOk_any (F m 1) _)) | (go_at_call 34; exact quiet_eq (l01In_any (F m 2) 0 100 _)))
                go_wp2
                (go_roundw; (case rel => exact ⟨m + 1, by omega, by go_num, (by have hbw := HB.out; first | exact below_drewN (by (repeat (first | with_reducible exact Below.refl _ _ | with_reducible refine Below.drew ?_ | (with_reducible refine Below.alloc ?_ ?hsz _; case hsz => ((try simp) <;> (try omega))) | (with_reducible refine Below.setCell ?_ ?hsz _; case hsz => ((try simp) <;> (try omega))) | (with_reducible refine below_step (by with_reducible assumption) ?hsz ?_; case hsz => ((try simp) <;> (try omega)))))) _ | (repeat (first | with_reducible exact Below.refl _ _ | with_reducible refine Below.drew ?_ | (with_reducible refine Below.alloc ?_ ?hsz _; case hsz => ((try simp) <;> (try omega))) | (with_reducible refine Below.setCell ?_ ?hsz _; case hsz => ((try simp) <;> (try omega))) | (with_reducible refine below_step (by with_reducible assumption) ?hsz ?_; case hsz => ((try simp) <;> (try omega)))))), orders_snoc hF.out (by have h1 := of_decide_eq_false k1; have h2 : decide (F (m - 1) 1 ≤ F m 1) = true := (by simp; omega); simp only [orderB, a1, a2, a3, h2, Bool.or_true, Bool.and_self] )⟩); (case measure => simp [intOf]; omega))
          · go_wp2_with fail
            go_big_quiet (first | (go_at_call 33; exact quiet_eq (smonthOk_any (F m 0) _)) | (go_at_call 33; exact quiet_eq (smonthOk_any (F m 1) _)) | (go_at_call 34; exact quiet_eq (l01In_any (F m 2) 0 100 _)))
            go_wp2
            go_ret
            exact ⟨ret_bool (ordersB_bad hlt (by simp [orderB, a3] )).symm, (by have hbw := HB.out; first | exact below_drewN (by (repeat (first | with_reducible exact Below.refl _ _ | with_reducible refine Below.drew ?_ | (with_reducible refine Below.alloc ?_ ?hsz _; case hsz => ((try simp) <;> (try omega))) | (with_reducible refine Below.setCell ?_ ?hsz _; case hsz => ((try simp) <;> (try omega))) | (with_reducible refine below_step (by with_reducible assumption) ?hsz ?_; case hsz => ((try simp) <;> (try omega)))))) _ | (repeat (first | with_reducible exact Below.refl _ _ | with_reducible refine Below.drew ?_ | (with_reducible refine Below.alloc ?_ ?hsz _; case hsz => ((try simp) <;> (try omega))) | (with_reducible refine Below.setCell ?_ ?hsz _; case hsz => ((try simp) <;> (try omega))) | (with_reducible refine below_step (by with_reducible assumption) ?hsz ?_; case hsz => ((try simp) <;> (try omega))))))⟩
        · go_wp2_with fail
          go_big_quiet (first | (go_at_call 33; exact quiet_eq (smonthOk_any (F m 0) _)) | (go_at_call 33; exact quiet_eq (smonthOk_any (F m 1) _)) | (go_at_call 34; exact quiet_eq (l01In_any (F m 2) 0 100 _)))
          go_wp2
          go_ret
          exact ⟨ret_bool (ordersB_bad hlt (by simp [orderB, a2] )).symm, (by have hbw := HB.out; first | exact below_drewN (by (repeat (first | with_reducible exact Below.refl _ _ | with_reducible refine Below.drew ?_ | (with_reducible refine Below.alloc ?_ ?hsz _; case hsz => ((try simp) <;> (try omega))) | (with_reducible refine Below.setCell ?_ ?hsz _; case hsz => ((try simp) <;> (try omega))) | (with_reducible refine below_step (by with_reducible assumption) ?hsz ?_; case hsz => ((try simp) <;> (try omega)))))) _ | (repeat (first | with_reducible exact Below.refl _ _ | with_reducible refine Below.drew ?_ | (with_reducible refine Below.alloc ?_ ?hsz _; case hsz => ((try simp) <;> (try omega))) | (with_reducible refine Below.setCell ?_ ?hsz _; case hsz => ((try simp) <;> (try omega))) | (with_reducible refine below_step (by with_reducible assumption) ?hsz ?_; case hsz => ((try simp) <;> (try omega))))))⟩
      · go_wp2_with fail
        go_big_quiet (first | (go_at_call 33; exact quiet_eq (smonthOk_any (F m 0) _)) | (go_at_call 33; exact quiet_eq (smonthOk_any (F m 1) _)) | (go_at_call 34; exact quiet_eq (l01In_any (F m 2) 0 100 _)))
        go_wp2
        go_ret
        exact ⟨ret_bool (ordersB_bad hlt (by simp [orderB, a1] )).symm, (by have hbw := HB.out; first | exact below_drewN (by (repeat (first | with_reducible exact Below.refl _ _ | with_reducible refine Below.drew ?_ | (with_reducible refine Below.alloc ?_ ?hsz _; case hsz => ((try simp) <;> (try omega))) | (with_reducible refine Below.setCell ?_ ?hsz _; case hsz => ((try simp) <;> (try omega))) | (with_reducible refine below_step (by with_reducible assumption) ?hsz ?_; case hsz => ((try simp) <;> (try omega)))))) _ | (repeat (first | with_reducible exact Below.refl _ _ | with_reducible refine Below.drew ?_ | (with_reducible refine Below.alloc ?_ ?hsz _; case hsz => ((try simp) <;> (try omega))) | (with_reducible refine Below.setCell ?_ ?hsz _; case hsz => ((try simp) <;> (try omega))) | (with_reducible refine below_step (by with_reducible assumption) ?hsz ?_; case hsz => ((try simp) <;> (try omega))))))⟩
    · obtain rfl : m = n := by omega
      go_wp2
      go_ret
      exact ⟨ret_bool (by rw [ordersB_all hF.out]; first | rfl | (simp; done) | (simp; omega)), hbw⟩
end Go.Proofs.Ytebgkmmmjmipnaa
