/- Contracts of heirAt, of the program and of the reference, and of the reference's test for different ids. -/
import Derived.Test.YtoebibgkpmppdaaRec
import Derived.Test.YtoebibgkpmppdaaHeirP
import Derived.BigQuiet
import Derived.Deep.QuietTactic
import Derived.Outline
namespace Go.Proofs.Ytoebibgkpmppdaa
open Go.RowKit

theorem heirAt1_any (x0 x1 x2 x3 t : Int) (b1 : Nat) (w : World) (h1 : w.cell? ⟨b1, 0, none⟩ = some (.int .i64 t)) :
    Calls Try.prog 49 #[.agg #[.int .i64 x0, .int .i64 x1, .int .i64 x2, .int .i64 x3], .pointer (some ⟨b1, 0, none⟩)] w fun e w' => e = .returned (.bool (x0 == t)) ∧ Below w.heap.size w w' := by
  have l1 := lt_of_cell h1
  go_enter Try.func49, Try.ntmps49
  go_wp2_with fail
  go_ret
  exact ⟨rfl, by (repeat (first | with_reducible exact Below.refl _ _ | with_reducible refine Below.drew ?_ | (with_reducible refine Below.alloc ?_ ?hsz _; case hsz => ((try simp) <;> (try omega))) | (with_reducible refine Below.setCell ?_ ?hsz _; case hsz => ((try simp) <;> (try omega))) | (with_reducible refine below_step (by with_reducible assumption) ?hsz ?_; case hsz => ((try simp) <;> (try omega)))))⟩
set_option maxHeartbeats 1000000 in
theorem indexHeir_any (A : Option Addr) (n cap : Nat) (F : Nat → Nat → Int) (t : Int) (b1 : Nat) (w : World) (hn : n ≤ 1048576) (hr : Recs w 4 A n F) (h1 : w.cell? ⟨b1, 0, none⟩ = some (.int .i64 t)) :
    Calls Try.prog 48 #[.slice A n cap, .func (.func 49) #[] #[.pointer (some ⟨b1, 0, none⟩)]] w fun e w' => e = .returned (.int .i64 (hAt F n t)) ∧ Below w.heap.size w w' := by
  have l1 := lt_of_cell h1
  have HR := Lib.hid hr
  have H1 := Lib.hid h1
  clear hr h1
  go_enter Try.func48, Try.ntmps48
  go_wp2_with fail
  go_loopw [8] (fun i wr => ∃ k : Nat, k ≤ n ∧ i = .int .i64 k ∧ Below w.heap.size w wr ∧ Hid (∀ j, j < k → (F j 0 == t) = false)) (fun i _ => n - (intOf i).toNat)
  case atStart => exact ⟨0, Nat.zero_le _, rfl, Below.refl _ _, fun j hj => by omega⟩
  case round =>
    obtain ⟨m, hm, rfl, hbw, hF⟩ := hrel
    by_cases hlt : m < n
    · obtain ⟨b, off, rfl, hb, c0, c1, c2, c3⟩ := HR.out.at4 hlt
      have d0 := (hbw.cell (p := ⟨b, off + m * 4, none⟩) hb).trans c0
      have d1 := (hbw.cell (p := ⟨b, off + m * 4 + 1, none⟩) hb).trans c1
      have d2 := (hbw.cell (p := ⟨b, off + m * 4 + 2, none⟩) hb).trans c2
      have d3 := (hbw.cell (p := ⟨b, off + m * 4 + 3, none⟩) hb).trans c3
      have h1 := Lib.hid ((hbw.cell (p := ⟨b1, 0, none⟩) l1).trans H1.out)
      have hmi : (m : Int) < (n : Int) := by omega
      have hm0 : (0 : Int) ≤ (m : Int) := by omega
      have hbs := hbw.size
      clear c0 c1 c2 c3 hb
      have HB := Lib.hid hbw
      clear hbw
      go_wp2_with fail
      with_reducible refine (heirAt1_any (F m 0) (F m 1) (F m 2) (F m 3) t b1 _ h1.out).mono ?_
      rintro e w1 ⟨rfl, hb1⟩
      have hbw := HB.out.trans (hb1.mono hbs)
      clear hb1 h1 HB d0 d1 d2 d3
      rcases Bool.eq_false_or_eq_true (F m 0 == t) with hp | hp
      · rw [hp]
        go_wp2
        go_ret
        exact ⟨ret_int (findI_hit hF.out hlt hp).symm, hbw⟩
      · rw [hp]
        go_wp2
        go_roundw
        case rel => exact ⟨m + 1, by omega, by go_num, hbw, fun j hj => by
          rcases Nat.lt_or_ge j m with h | h
          · exact hF.out j h
          · obtain rfl : j = m := by omega
            exact hp⟩
        case measure => simp [intOf]; omega
    · obtain rfl : m = n := by omega
      go_wp2
      go_ret
      exact ⟨ret_int (findI_none hF.out).symm, hbw⟩
theorem heirAt_any (A : Option Addr) (n cap : Nat) (F : Nat → Nat → Int) (t : Int) (w : World) (hn : n ≤ 1048576) (hr : Recs w 4 A n F) :
    Calls Try.prog 39 #[.slice A n cap, .int .i64 t] w fun e w' => e = .returned (.int .i64 (hAt F n t)) ∧ Below w.heap.size w w' := by
  have hr' := Lib.hid (hr.alloc (.cells #[.int .i64 t] 3))
  clear hr
  go_enter Try.func39, Try.ntmps39
  go_wp2_with (go_at_call 48; (with_reducible refine (indexHeir_any A n cap F t w.heap.size _ hn hr'.out (by simp [go_sem])).mono ?_); rintro e w1 ⟨rfl, hb1⟩)
  go_ret
  exact ⟨rfl, by (repeat (first | with_reducible exact Below.refl _ _ | with_reducible refine Below.drew ?_ | (with_reducible refine Below.alloc ?_ ?hsz _; case hsz => ((try simp) <;> (try omega))) | (with_reducible refine Below.setCell ?_ ?hsz _; case hsz => ((try simp) <;> (try omega))) | (with_reducible refine below_step (by with_reducible assumption) ?hsz ?_; case hsz => ((try simp) <;> (try omega)))))⟩
set_option maxHeartbeats 1000000 in
theorem l19At_any (A : Option Addr) (n cap : Nat) (F : Nat → Nat → Int) (t : Int) (w : World) (hn : n ≤ 1048576) (hr : Recs w 4 A n F) :
    Calls Try.prog 34 #[.slice A n cap, .int .i64 t] w fun e w' => e = .returned (.int .i64 (hAt F n t)) ∧ w = w' := by
  have HR := Lib.hid hr
  clear hr
  go_enter Try.func34, Try.ntmps34
  go_wp2_with fail
  go_loop [5] (fun i => ∃ k : Nat, k ≤ n ∧ i = .int .i64 k ∧ Hid (∀ j, j < k → (F j 0 == t) = false)) (fun i => n - (intOf i).toNat)
  case atStart => exact ⟨0, Nat.zero_le _, rfl, fun j hj => by omega⟩
  case round =>
    obtain ⟨m, hm, rfl, hF⟩ := hrel
    by_cases hlt : m < n
    · obtain ⟨b, off, rfl, hb, c0, c1, c2, c3⟩ := HR.out.at4 hlt
      have hmi : (m : Int) < (n : Int) := by omega
      have hm0 : (0 : Int) ≤ (m : Int) := by omega
      clear c1 c2 c3
      rcases Bool.eq_false_or_eq_true (F m 0 == t) with hp | hp
      · have HP := Lib.hid hp
        go_wp2
        go_ret
        exact ⟨ret_int (findI_hit hF.out hlt HP.out).symm, rfl⟩
      · have HP := Lib.hid hp
        go_wp2
        go_round
        case rel => exact ⟨m + 1, by omega, by go_num, fun j hj => by
          rcases Nat.lt_or_ge j m with h | h
          · exact hF.out j h
          · obtain rfl : j = m := by omega
            exact HP.out⟩
        case measure => simp [intOf]; omega
    · obtain rfl : m = n := by omega
      go_wp2
      go_ret
      exact ⟨ret_int (findI_none hF.out).symm, rfl⟩
set_option maxHeartbeats 1000000 in
theorem distinct_any (A : Option Addr) (n cap : Nat) (F : Nat → Nat → Int) (w : World) (hn : n ≤ 1048576) (hr : Recs w 4 A n F) :
    Calls Try.prog 35 #[.slice A n cap] w fun e w' => e = .returned (.bool (distB F n)) ∧ w = w' := by
  have HR := Lib.hid hr
  clear hr
  go_enter Try.func35, Try.ntmps35
  go_wp2_with fail
  go_loop [3] (fun i => ∃ k : Nat, k ≤ n ∧ i = .int .i64 k ∧ Hid (∀ j, j < k → (hAt F n (F j 0) == (j : Int)) = true)) (fun i => n - (intOf i).toNat)
  case atStart => exact ⟨0, Nat.zero_le _, rfl, fun j hj => by omega⟩
  case round =>
    obtain ⟨m, hm, rfl, hF⟩ := hrel
    by_cases hlt : m < n
    · obtain ⟨b, off, e, hb, c0, c1, c2, c3⟩ := HR.out.at4 hlt
      have HA := Lib.hid (l19At_any A n cap F (F m 0) w hn HR.out)
      subst e
      have hmi : (m : Int) < (n : Int) := by omega
      have hm0 : (0 : Int) ≤ (m : Int) := by omega
      clear c1 c2 c3
      rcases Bool.eq_false_or_eq_true (hAt F n (F m 0) == (m : Int)) with hp | hp
      · have hp2 : (hAt F n (F m 0) != (m : Int)) = false := by simp only [bne, hp, Bool.not_true]
        have HP := Lib.hid hp
        clear hp
        go_wp2_with (go_at_call 34; (with_reducible refine (HA.out).mono ?_); rintro e w' ⟨rfl, rfl⟩)
        go_round
        case rel => exact ⟨m + 1, by omega, by go_num, fun j hj => by
          rcases Nat.lt_or_ge j m with h | h
          · exact hF.out j h
          · obtain rfl : j = m := by omega
            exact HP.out⟩
        case measure => simp [intOf]; omega
      · have hp2 : (hAt F n (F m 0) != (m : Int)) = true := by simp only [bne, hp, Bool.not_false]
        have HP := Lib.hid hp
        clear hp
        go_wp2_with (go_at_call 34; (with_reducible refine (HA.out).mono ?_); rintro e w' ⟨rfl, rfl⟩)
        go_ret
        exact ⟨ret_bool (by simp only [distB, allB_false (p := fun i => hAt F n (F i 0) == (i : Int)) hlt HP.out, Bool.false_and]), rfl⟩
    · obtain rfl : m = n := by omega
      go_wp2
      go_ret
      exact ⟨ret_bool (by have h := allB_iff.2 hF.out; simp only [distB, h, Bool.true_and]; first | rfl | (simp; done) | (simp; omega)), rfl⟩
end Go.Proofs.Ytoebibgkpmppdaa
