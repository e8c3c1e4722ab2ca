/- Contracts of LifeExpectancy, of the program and of the reference. -/
import Derived.Test.YtjmibbjachgofaaSurvS
import Derived.Outline
namespace Go.Proofs.Ytjmibbjachgofaa
open Go.RowKit

def lifeI (f : Int) (n : Nat) (F : Nat → Int) (age : Int) : Int := sumI (fun i => survP f n F age 1000000 (i + 1)) (survN f n F age 120 1000000 - 1) / 1000000
theorem survN_120 (f : Int) (n : Nat) (F : Nat → Int) (age : Int) : survN f n F age 120 1000000 = 0 ∨ survN f n F age 120 1000000 = 121 := by
  unfold survN
  split
  · right; rfl
  · left; rfl
theorem sum_bd (f : Int) (n : Nat) (F : Nat → Int) (age : Int) (k : Nat) : 0 ≤ sumI (fun i => survP f n F age 1000000 (i + 1)) k ∧ sumI (fun i => survP f n F age 1000000 (i + 1)) k ≤ 1000000000 * k := by
  have := sumI_bd (f := fun i => survP f n F age 1000000 (i + 1)) (lo := 0) (hi := 1000000000) (n := k) (fun i _ => survP_bd (by omega) (by omega) (i + 1))
  omega
set_option maxHeartbeats 1000000 in
set_option maxRecDepth 100000 in
theorem life_any (f : Int) (A : Option Addr) (n cap : Nat) (F : Nat → Int) (age : Int) (w : World) (hn : n ≤ 1152921504606846975) (hr : Row w .i64 A n F) :
    Calls Try.prog 35 #[.agg #[.int .i64 f, .slice A n cap], .int .i64 age] w fun e w' => e = .returned (.int .i64 (lifeI f n F age)) ∧ Below w.heap.size w w' := by
  have HR := Lib.hid (hr.alloc (.cells #[.int .i64 f, .slice A n cap] 39))
  clear hr
  unfold lifeI
  rcases survN_120 f n F age with hN | hN
  · rw [hN]
    have HN := Lib.hid hN
    clear hN
    go_enter Try.func35, Try.ntmps35
    go_wp2_with fail
    with_reducible refine (surv_any f A n cap F age 120 1000000 _ hn HR.out).mono ?_
    rintro e w1 ⟨v, rfl, o1, hb1⟩
    rw [HN.out] at o1
    obtain ⟨A1, c1, rfl, _⟩ := own_row o1
    have hb := Lib.hid (show Below w.heap.size w w1 by (repeat (first | with_reducible exact Below.refl _ _ | with_reducible refine Below.drew ?_ | (with_reducible refine Below.alloc ?_ ?hsz _; case hsz => ((try simp) <;> (try omega))) | (with_reducible refine Below.setCell ?_ ?hsz _; case hsz => ((try simp) <;> (try omega))) | (with_reducible refine below_step (by with_reducible assumption) ?hsz ?_; case hsz => ((try simp) <;> (try omega))))))
    clear o1 hb1
    go_wp2_with fail
    go_ret
    exact ⟨ret_int (by simp [sumI]), hb.out⟩
  · rw [hN]
    have HN := Lib.hid hN
    clear hN
    go_enter Try.func35, Try.ntmps35
    go_wp2_with fail
    with_reducible refine (surv_any f A n cap F age 120 1000000 _ hn HR.out).mono ?_
    rintro e w1 ⟨v, rfl, o1, hb1⟩
    rw [HN.out] at o1
    rcases o1.2 with ⟨_, h⟩ | ⟨g, c1, cur, rfl, hg, hh, hnc, hcm, hcs, ht⟩
    · omega
    have hcell := Lib.hid (fun i (hi : i < 121) => by have := o1.cells (g := g) rfl i _ (ints_get _ hi); rwa [add_zero_none] at this : ∀ i, i < 121 → w1.cell? ⟨g, i, none⟩ = some (.int .i64 (survP f n F age 1000000 i)))
    have hb := Lib.hid (show Below w.heap.size w w1 by (repeat (first | with_reducible exact Below.refl _ _ | with_reducible refine Below.drew ?_ | (with_reducible refine Below.alloc ?_ ?hsz _; case hsz => ((try simp) <;> (try omega))) | (with_reducible refine Below.setCell ?_ ?hsz _; case hsz => ((try simp) <;> (try omega))) | (with_reducible refine below_step (by with_reducible assumption) ?hsz ?_; case hsz => ((try simp) <;> (try omega))))))
    have hc1 : ¬ c1 = 1 := by omega
    clear o1 hb1 hh hcm hcs ht hg
    go_wp2_with fail
    go_loop [6, 18] (fun s i => ∃ k : Nat, k ≤ 120 ∧ i = .int .i64 k ∧ s = .int .i64 (sumI (fun i => survP f n F age 1000000 (i + 1)) k)) (fun _ i => 120 - (intOf i).toNat)
    case atStart => exact ⟨0, by omega, rfl, rfl⟩
    case round =>
      obtain ⟨k, hk, rfl, rfl⟩ := hrel
      by_cases hlt : k < 120
      · have hck : w1.cell? ⟨g, 1 + k, none⟩ = some (.int .i64 (survP f n F age 1000000 (k + 1))) := by rw [Nat.add_comm]; exact hcell.out _ (by omega)
        obtain ⟨s0, s1⟩ := sum_bd f n F age k
        obtain ⟨p0, p1⟩ := survP_bd (f := f) (n := n) (F := F) (age := age) (start := 1000000) (by omega) (by omega) (k + 1)
        go_wp2
        go_round
        case rel => exact ⟨k + 1, by omega, by go_num, rfl⟩
        case measure => simp [intOf]; omega
      · obtain ⟨s0, s1⟩ := sum_bd f n F age k
        have hge : 120 ≤ k := by omega
        go_wp2
        go_ret
        obtain rfl : k = 120 := by omega
        exact ⟨rfl, hb.out⟩
set_option maxHeartbeats 1000000 in
set_option maxRecDepth 100000 in
theorem slife_any (f : Int) (A : Option Addr) (n cap : Nat) (F : Nat → Int) (age : Int) (w : World) (hn : n ≤ 1152921504606846975) (hr : Row w .i64 A n F) :
    Calls Try.prog 46 #[.agg #[.int .i64 f, .slice A n cap], .int .i64 age] w fun e w' => e = .returned (.int .i64 (lifeI f n F age)) ∧ Below w.heap.size w w' := by
  have HR := Lib.hid (hr.alloc (.cells #[.int .i64 f, .slice A n cap] 39))
  clear hr
  unfold lifeI
  rcases survN_120 f n F age with hN | hN
  · rw [hN]
    have HN := Lib.hid hN
    clear hN
    go_enter Try.func46, Try.ntmps46
    go_wp2_with fail
    with_reducible refine (ssurv_any f A n cap F age 120 1000000 _ hn HR.out).mono ?_
    rintro e w1 ⟨v, rfl, o1, hb1⟩
    rw [HN.out] at o1
    obtain ⟨A1, c1, rfl, _⟩ := own_row o1
    have hb := Lib.hid (show Below w.heap.size w w1 by (repeat (first | with_reducible exact Below.refl _ _ | with_reducible refine Below.drew ?_ | (with_reducible refine Below.alloc ?_ ?hsz _; case hsz => ((try simp) <;> (try omega))) | (with_reducible refine Below.setCell ?_ ?hsz _; case hsz => ((try simp) <;> (try omega))) | (with_reducible refine below_step (by with_reducible assumption) ?hsz ?_; case hsz => ((try simp) <;> (try omega))))))
    clear o1 hb1
    go_wp2_with fail
    refine wp_loop_rounds 1 ?_
    rw [rounds_succ]
    go_wp2
    go_ret
    exact ⟨ret_int (by simp [sumI]), hb.out⟩
  · rw [hN]
    have HN := Lib.hid hN
    clear hN
    go_enter Try.func46, Try.ntmps46
    go_wp2_with fail
    with_reducible refine (ssurv_any f A n cap F age 120 1000000 _ hn HR.out).mono ?_
    rintro e w1 ⟨v, rfl, o1, hb1⟩
    rw [HN.out] at o1
    rcases o1.2 with ⟨_, h⟩ | ⟨g, c1, cur, rfl, hg, hh, hnc, hcm, hcs, ht⟩
    · omega
    have hcell := Lib.hid (fun i (hi : i < 121) => by have := o1.cells (g := g) rfl i _ (ints_get _ hi); rwa [add_zero_none] at this : ∀ i, i < 121 → w1.cell? ⟨g, i, none⟩ = some (.int .i64 (survP f n F age 1000000 i)))
    have hb := Lib.hid (show Below w.heap.size w w1 by (repeat (first | with_reducible exact Below.refl _ _ | with_reducible refine Below.drew ?_ | (with_reducible refine Below.alloc ?_ ?hsz _; case hsz => ((try simp) <;> (try omega))) | (with_reducible refine Below.setCell ?_ ?hsz _; case hsz => ((try simp) <;> (try omega))) | (with_reducible refine below_step (by with_reducible assumption) ?hsz ?_; case hsz => ((try simp) <;> (try omega))))))
    clear o1 hb1 hh hcm hcs ht hg
    go_wp2_with fail
    go_loop [6, 7] (fun s i => ∃ k : Nat, k ≤ 120 ∧ i = .int .i64 (k + 1) ∧ s = .int .i64 (sumI (fun i => survP f n F age 1000000 (i + 1)) k)) (fun _ i => 121 - (intOf i).toNat)
    case atStart => exact ⟨0, by omega, rfl, rfl⟩
    case round =>
      obtain ⟨k, hk, rfl, rfl⟩ := hrel
      by_cases hlt : k < 120
      · have hck : w1.cell? ⟨g, k + 1, none⟩ = some (.int .i64 (survP f n F age 1000000 (k + 1))) := hcell.out _ (by omega)
        obtain ⟨s0, s1⟩ := sum_bd f n F age k
        obtain ⟨p0, p1⟩ := survP_bd (f := f) (n := n) (F := F) (age := age) (start := 1000000) (by omega) (by omega) (k + 1)
        go_wp2
        go_round
        case rel => exact ⟨k + 1, by omega, by go_num, rfl⟩
        case measure => simp [intOf]; omega
      · obtain ⟨s0, s1⟩ := sum_bd f n F age k
        have hge : 120 ≤ k := by omega
        go_wp2
        go_ret
        obtain rfl : k = 120 := by omega
        exact ⟨rfl, hb.out⟩
end Go.Proofs.Ytjmibbjachgofaa
