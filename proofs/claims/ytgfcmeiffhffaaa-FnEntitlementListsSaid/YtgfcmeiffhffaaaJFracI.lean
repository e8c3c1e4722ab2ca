/- Contracts of FracOk, of the program and of the reference, at all numbers. -/
import Derived.BigQuiet
import Derived.Deep.QuietTactic
import Derived.Deep.RegionHeld3
import Derived.Outline
import Derived.Test.YtgfcmeiffhffaaaJRow
import Derived.Test.YtgfcmeiffhffaaaJBandX
import Derived.Test.YtgfcmeiffhffaaaJFind
import Derived.Test.YtgfcmeiffhffaaaJRec
namespace Go.Proofs.Ytgfcmeiffhffaaa
open Go.RowKit

theorem tmod_nat (a b : Nat) : ((a : Int)).tmod (b : Int) = ((a % b : Nat) : Int) := rfl
theorem tdiv_nat (a b : Nat) : ((a : Int)).tdiv (b : Int) = ((a / b : Nat) : Int) := rfl
set_option maxHeartbeats 1000000 in
theorem gcd_any (a b : Nat) (ha : a ≤ 1000000000000000) (hb : b ≤ 1000000000000000) (w : World) : Calls Try.prog 119 #[.int .i64 a, .int .i64 b] w fun e w' => e = .returned (.int .i64 (Nat.gcd a b : Nat)) ∧ Below w.heap.size w w' := by
  go_enter Try.func119, Try.ntmps119
  go_wp2_with fail
  go_loopw [0, 1] (fun x y wr => ∃ m k : Nat, x = .int .i64 m ∧ y = .int .i64 k ∧ m ≤ 1000000000000000 ∧ k ≤ 1000000000000000 ∧ Hid (Nat.gcd m k = Nat.gcd a b) ∧ Below w.heap.size w wr) (fun _ y _ => (intOf y).toNat)
  case atStart => exact ⟨a, b, rfl, rfl, ha, hb, rfl, Below.refl _ _⟩
  case round =>
    obtain ⟨m, k, rfl, rfl, hm, hk, hg, hbw⟩ := hrel
    rcases Nat.eq_zero_or_pos k with h0 | h0
    · subst h0
      have HG := Lib.hid (show Nat.gcd a b = m by rw [← hg.out, Nat.gcd_zero_right])
      have hn : IntKind.i64.wrap (-(m : Int)) = -(m : Int) := by rw [IntKind.wrap_i64]; omega
      rw [HG.out]
      go_wp2
      go_ret
      exact ⟨ret_int (by first | rfl | (rw [HG.out]; done) | (have := HG.out; omega)), hbw⟩
    · have hz : ((k : Int) == 0) = false := by simp; omega
      have hz' : ((k : Int) != 0) = true := by simp; omega
      have hk0 : ¬ (k : Int) = 0 := by omega
      have ht := tmod_nat m k
      have hlt := Nat.mod_lt m h0
      have HB := Lib.hid hbw
      have HM := Lib.hid (show Nat.gcd k (m % k) = Nat.gcd a b by rw [← hg.out, Nat.gcd_comm m k, Nat.gcd_rec k m, Nat.gcd_comm])
      clear hbw hg
      go_wp2_with fail
      go_quiet (fail)
      go_wp2
      go_roundw
      case rel => exact ⟨k, m % k, rfl, rfl, hk, by omega, HM.out, below_drewN HB.out _⟩
      case measure => simp [intOf]; omega
def fracB (n d : Nat) : Bool := decide (1 ≤ d) && decide (d ≤ 1000000) && decide (n ≤ 1000000000000) && decide (Nat.gcd n d = 1)
theorem fracB_true {n d : Nat} (h : fracB n d = true) : 1 ≤ d ∧ d ≤ 1000000 ∧ n ≤ 1000000000000 ∧ Nat.gcd n d = 1 := by
  simp only [fracB, Bool.and_eq_true, decide_eq_true_eq] at h
  exact ⟨h.1.1.1, h.1.1.2, h.1.2, h.2⟩
set_option maxHeartbeats 1000000 in
theorem fracOk_any (n d : Nat) (hn : n ≤ 1000000000000000) (hd : d ≤ 1000000000000000) (w : World) : Calls Try.prog 93 #[.agg #[.int .i64 n, .int .i64 d]] w fun e w' => e = .returned (.bool (fracB n d)) ∧ Below w.heap.size w w' := by
  rcases Bool.eq_false_or_eq_true (inB d 1 1000000) with h1 | h1
  · rcases Bool.eq_false_or_eq_true (inB n (-1000000000000) 1000000000000) with h2 | h2
    · obtain ⟨a1, a2⟩ := inB_true.1 h1
      obtain ⟨b1, b2⟩ := inB_true.1 h2
      have e : fracB n d = ((Nat.gcd n d : Nat) == 1) := by
        simp only [fracB, decide_eq_true (show 1 ≤ d by omega), decide_eq_true (show d ≤ 1000000 by omega), decide_eq_true (show n ≤ 1000000000000 by omega), Bool.true_and]
        rfl
      rw [e]
      go_enter Try.func93, Try.ntmps93
      go_wp2_with (first | (go_at_call 59; (with_reducible refine (within_any d 1 1000000 _).mono ?_); rintro e w' ⟨rfl, rfl⟩) | (go_at_call 59; (with_reducible refine (within_any n (-1000000000000) 1000000000000 _).mono ?_); rintro e w' ⟨rfl, rfl⟩) | (go_at_call 119; (with_reducible refine (gcd_any n d hn hd _).mono ?_); rintro e w1 ⟨rfl, hb1⟩; obtain ⟨hc1, hf1⟩ := bcell hb1; (try simp only [World.size_drew] at hc1 hf1); have hz1 := hb1.size; (try simp at hz1); (try have q1_0 : w.heap.size < w1.heap.size := by omega); (try have q1_1 : w.heap.size + 1 < w1.heap.size := by omega); (try have q1_2 : w.heap.size + 2 < w1.heap.size := by omega); (try have q1_3 : w.heap.size + 3 < w1.heap.size := by omega); (try have q1_4 : w.heap.size + 4 < w1.heap.size := by omega); (try have q1_0_0 : w0.heap.size < w1.heap.size := by omega); (try have q1_0_1 : w0.heap.size + 1 < w1.heap.size := by omega); (try have q1_2_0 : w2.heap.size < w1.heap.size := by omega); (try have q1_2_1 : w2.heap.size + 1 < w1.heap.size := by omega); (try have q1_3_0 : w3.heap.size < w1.heap.size := by omega); (try have q1_3_1 : w3.heap.size + 1 < w1.heap.size := by omega); (try have q1_4_0 : w4.heap.size < w1.heap.size := by omega); (try have q1_4_1 : w4.heap.size + 1 < w1.heap.size := by omega); (try have q1_5_0 : w5.heap.size < w1.heap.size := by omega); (try have q1_5_1 : w5.heap.size + 1 < w1.heap.size := by omega); (try have q1_6_0 : w6.heap.size < w1.heap.size := by omega); (try have q1_6_1 : w6.heap.size + 1 < w1.heap.size := by omega); (try have u1_b : b < w1.heap.size := by omega); (try have u1_q : q < w1.heap.size := by omega); (try have u1_g : g < w1.heap.size := by omega); (try have u1_g1 : g1 < w1.heap.size := by omega); (try have u1_g2 : g2 < w1.heap.size := by omega); (try have u1_g3 : g3 < w1.heap.size := by omega); (try have u1_g4 : g4 < w1.heap.size := by omega); (try have u1_g5 : g5 < w1.heap.size := by omega)))
      go_ret
      exact ⟨ret_bool (by rw [Bool.eq_iff_iff]; simp; omega), by (repeat (first | with_reducible exact Below.refl _ _ | with_reducible refine Below.drew ?_ | (with_reducible refine Below.alloc ?_ ?hsz _; case hsz => ((try simp) <;> (try omega))) | (with_reducible refine Below.setCell ?_ ?hsz _; case hsz => ((try simp) <;> (try omega))) | (with_reducible refine below_step (by with_reducible assumption) ?hsz ?_; case hsz => ((try simp) <;> (try omega)))))⟩
    · have e : fracB n d = false := by
        have : ¬ n ≤ 1000000000000 := fun hh => by rw [inB_true.2 ⟨by omega, by omega⟩] at h2; cases h2
        simp [fracB, this]
      rw [e]
      go_enter Try.func93, Try.ntmps93
      go_wp2_with (first | (go_at_call 59; (with_reducible refine (within_any d 1 1000000 _).mono ?_); rintro e w' ⟨rfl, rfl⟩) | (go_at_call 59; (with_reducible refine (within_any n (-1000000000000) 1000000000000 _).mono ?_); rintro e w' ⟨rfl, rfl⟩))
      go_ret
      exact ⟨rfl, by (repeat (first | with_reducible exact Below.refl _ _ | with_reducible refine Below.drew ?_ | (with_reducible refine Below.alloc ?_ ?hsz _; case hsz => ((try simp) <;> (try omega))) | (with_reducible refine Below.setCell ?_ ?hsz _; case hsz => ((try simp) <;> (try omega))) | (with_reducible refine below_step (by with_reducible assumption) ?hsz ?_; case hsz => ((try simp) <;> (try omega)))))⟩
  · have e : fracB n d = false := by
      rw [Bool.eq_false_iff]
      intro hh
      obtain ⟨q1, q2, _⟩ := fracB_true hh
      rw [inB_true.2 ⟨by omega, by omega⟩] at h1
      cases h1
    rw [e]
    go_enter Try.func93, Try.ntmps93
    go_wp2_with (first | (go_at_call 59; (with_reducible refine (within_any d 1 1000000 _).mono ?_); rintro e w' ⟨rfl, rfl⟩))
    go_ret
    exact ⟨rfl, by (repeat (first | with_reducible exact Below.refl _ _ | with_reducible refine Below.drew ?_ | (with_reducible refine Below.alloc ?_ ?hsz _; case hsz => ((try simp) <;> (try omega))) | (with_reducible refine Below.setCell ?_ ?hsz _; case hsz => ((try simp) <;> (try omega))) | (with_reducible refine below_step (by with_reducible assumption) ?hsz ?_; case hsz => ((try simp) <;> (try omega)))))⟩
def redN (a b : Nat) : Nat := a / Nat.gcd a b
def redD (a b : Nat) : Nat := b / Nat.gcd a b
def redB (a b : Nat) : Bool := fracB (redN a b) (redD a b)
/-- A fraction and a truth value come back. -/
def FracQ (b : Bool) (n d : Nat) (w : World) (e : Ending) (w' : World) : Prop :=
  e = .returned (.tuple #[.agg #[.int .i64 ((if b = true then n else 0 : Nat) : Int), .int .i64 ((if b = true then d else 0 : Nat) : Int)], .bool b]) ∧ Below w.heap.size w w'
set_option maxHeartbeats 2000000 in
theorem reduced_any (a b : Nat) (ha : a ≤ 1000000000000000) (hb : b ≤ 1000000000000000) (hb1 : 1 ≤ b) (w : World) : Calls Try.prog 87 #[.int .i64 a, .int .i64 b] w (FracQ (redB a b) (redN a b) (redD a b) w) := by
  have g0 : 1 ≤ Nat.gcd a b := Nat.gcd_pos_of_pos_right a hb1
  have t1 := tdiv_nat a (Nat.gcd a b)
  have t2 := tdiv_nat b (Nat.gcd a b)
  have l1 : a / Nat.gcd a b ≤ a := Nat.div_le_self _ _
  have l2 : b / Nat.gcd a b ≤ b := Nat.div_le_self _ _
  have HB := Lib.hid (show redB a b = fracB (a / Nat.gcd a b) (b / Nat.gcd a b) from rfl)
  have HN := Lib.hid (show redN a b = a / Nat.gcd a b from rfl)
  have HD := Lib.hid (show redD a b = b / Nat.gcd a b from rfl)
  have HG := Lib.hid (gcd_any a b ha hb)
  rw [HB.out, HN.out, HD.out]
  clear HB HN HD
  generalize Nat.gcd a b = g at *
  generalize a / g = x at *
  generalize b / g = y at *
  have hz : ((g : Int) == 0) = false := by simp; omega
  have hz' : ¬ (g : Int) = 0 := by omega
  have hneg : decide ((b : Int) < 0) = false := by simp
  go_enter Try.func87, Try.ntmps87
  go_wp2_with fail
  with_reducible refine (HG.out _).mono ?_
  rintro e w1 ⟨rfl, hb1⟩
  have X1 := (Box.made w 144 #[.int .i64 0, .int .i64 0]).kept hb1
  have B1 : Below w.heap.size w w1 := by (repeat (first | with_reducible exact Below.refl _ _ | with_reducible refine Below.drew ?_ | (with_reducible refine Below.alloc ?_ ?hsz _; case hsz => ((try simp) <;> (try omega))) | (with_reducible refine Below.setCell ?_ ?hsz _; case hsz => ((try simp) <;> (try omega))) | (with_reducible refine below_step (by with_reducible assumption) ?hsz ?_; case hsz => ((try simp) <;> (try omega)))))
  have z1 := B1.size
  have zx := X1.lt
  clear hb1 HG
  obtain ⟨e1, e2, e3, e4⟩ := X1.two
  have HO := Lib.hid (fracOk_any x y (by omega) (by omega))
  rcases Bool.eq_false_or_eq_true (fracB x y) with k1 | k1
  · go_wp2_with fail
    go_region
    all_goals go_wp2_with fail
    all_goals (with_reducible refine (HO.out _).mono ?_); (rintro e w2 ⟨rfl, hb2⟩); rw [k1]; (have hz2 := hb2.size); simp only [World.size_drew, World.size_alloc] at hz2; (obtain ⟨hc2, hf2⟩ := bcell hb2); (try simp only [World.size_drew] at hc2 hf2); (have q2 : w.heap.size < w2.heap.size := by omega); (have q3 : w1.heap.size < w2.heap.size := by omega); (have X2 := ((X1.alloc (.cells #[.int .i64 x, .int .i64 y] 144)).drew).kept hb2); (obtain ⟨f1, f2, f3, f4⟩ := X2.two)
    all_goals go_wp2_with fail
    all_goals exact bodyPost_ret (v := .tuple #[.agg #[.int .i64 x, .int .i64 y], .bool true]) (by simp [results, Try.results87, go_sem, *]) rfl ⟨by simp [k1], by (repeat (first | with_reducible exact Below.refl _ _ | with_reducible refine Below.drew ?_ | (with_reducible refine Below.alloc ?_ ?hsz _; case hsz => ((try simp) <;> (try omega))) | (with_reducible refine Below.setCell ?_ ?hsz _; case hsz => ((try simp) <;> (try omega))) | (with_reducible refine below_step (by with_reducible assumption) ?hsz ?_; case hsz => ((try simp) <;> (try omega)))))⟩
  · go_wp2_with fail
    go_region
    all_goals go_wp2_with fail
    all_goals (with_reducible refine (HO.out _).mono ?_); (rintro e w2 ⟨rfl, hb2⟩); rw [k1]; (have hz2 := hb2.size); simp only [World.size_drew, World.size_alloc] at hz2; (obtain ⟨hc2, hf2⟩ := bcell hb2); (try simp only [World.size_drew] at hc2 hf2); (have q2 : w.heap.size < w2.heap.size := by omega); (have q3 : w1.heap.size < w2.heap.size := by omega); (have X2 := ((X1.alloc (.cells #[.int .i64 x, .int .i64 y] 144)).drew).kept hb2); (obtain ⟨f1, f2, f3, f4⟩ := X2.two)
    all_goals go_wp2_with fail
    all_goals exact bodyPost_ret (v := .tuple #[.agg #[.int .i64 0, .int .i64 0], .bool false]) (by simp [results, Try.results87, go_sem, *]) rfl ⟨by simp [k1], by (repeat (first | with_reducible exact Below.refl _ _ | with_reducible refine Below.drew ?_ | (with_reducible refine Below.alloc ?_ ?hsz _; case hsz => ((try simp) <;> (try omega))) | (with_reducible refine Below.setCell ?_ ?hsz _; case hsz => ((try simp) <;> (try omega))) | (with_reducible refine below_step (by with_reducible assumption) ?hsz ?_; case hsz => ((try simp) <;> (try omega)))))⟩
end Go.Proofs.Ytgfcmeiffhffaaa
namespace Go.Proofs.Ytgfcmeiffhffaaa
open Go.RowKit

set_option maxHeartbeats 1000000 in
theorem sgcd_any (a b : Nat) (ha : a ≤ 1000000000000000) (hb : b ≤ 1000000000000000) (w : World) : Calls Try.prog 141 #[.int .i64 a, .int .i64 b] w fun e w' => e = .returned (.int .i64 (Nat.gcd a b : Nat)) ∧ w = w' := by
  go_enter Try.func141, Try.ntmps141
  go_wp2_with fail
  go_loop [0, 1] (fun x y => ∃ m k : Nat, x = .int .i64 m ∧ y = .int .i64 k ∧ m ≤ 1000000000000000 ∧ k ≤ 1000000000000000 ∧ Hid (Nat.gcd m k = Nat.gcd a b)) (fun _ y => (intOf y).toNat)
  case atStart => exact ⟨a, b, rfl, rfl, ha, hb, rfl⟩
  case round =>
    obtain ⟨m, k, rfl, rfl, hm, hk, hg⟩ := hrel
    rcases Nat.eq_zero_or_pos k with h0 | h0
    · subst h0
      have HG := Lib.hid (show Nat.gcd a b = m by rw [← hg.out, Nat.gcd_zero_right])
      go_wp2
      go_ret
      exact ⟨ret_int (by first | rfl | (rw [HG.out]; done) | (have := HG.out; omega)), rfl⟩
    · have hz : ((k : Int) == 0) = false := by simp; omega
      have hz' : ((k : Int) != 0) = true := by simp; omega
      have hk0 : ¬ (k : Int) = 0 := by omega
      have ht := tmod_nat m k
      have hlt := Nat.mod_lt m h0
      have HM := Lib.hid (show Nat.gcd k (m % k) = Nat.gcd a b by rw [← hg.out, Nat.gcd_comm m k, Nat.gcd_rec k m, Nat.gcd_comm])
      clear hg
      go_wp2
      go_round
      case rel => exact ⟨k, m % k, rfl, rfl, hk, by omega, HM.out⟩
      case measure => simp [intOf]; omega
theorem abs_any (a : Nat) (w : World) : Calls Try.prog 142 #[.int .i64 a] w fun e w' => e = .returned (.int .i64 (a : Nat)) ∧ w = w' := by
  have hneg : decide ((a : Int) < 0) = false := by simp
  go_enter Try.func142, Try.ntmps142
  go_wp2
  go_ret
  exact ⟨rfl, rfl⟩
set_option maxHeartbeats 2000000 in
theorem sfracOk_any (n d : Nat) (hn : n ≤ 1000000000000000) (hd : d ≤ 1000000000000000) (w : World) : Calls Try.prog 136 #[.agg #[.int .i64 n, .int .i64 d]] w fun e w' => e = .returned (.bool (fracB n d)) ∧ Below w.heap.size w w' := by
  have I1 := Lib.hid (l01In_any d 1 1000000)
  have I2 := Lib.hid (l01In_any n (-1000000000000) 1000000000000)
  rcases Bool.eq_false_or_eq_true (inB d 1 1000000) with h1 | h1
  · rw [h1] at I1
    rcases Bool.eq_false_or_eq_true (inB n (-1000000000000) 1000000000000) with h2 | h2
    · rw [h2] at I2
      obtain ⟨a1, a2⟩ := inB_true.1 h1
      obtain ⟨b1, b2⟩ := inB_true.1 h2
      have e : fracB n d = ((Nat.gcd n d : Nat) == 1) := by
        simp only [fracB, decide_eq_true (show 1 ≤ d by omega), decide_eq_true (show d ≤ 1000000 by omega), decide_eq_true (show n ≤ 1000000000000 by omega), Bool.true_and]
        rfl
      rw [e]
      go_enter Try.func136, Try.ntmps136
      go_wp2_with fail
      go_big_quiet (first | (go_at_call 55; with_reducible exact quiet_eq (I1.out _)) | (go_at_call 55; with_reducible exact quiet_eq (I2.out _)) | (go_at_call 142; with_reducible exact quiet_eq (abs_any n _)) | (go_at_call 141; with_reducible exact quiet_eq (sgcd_any n d hn hd _)))
      go_wp2_with fail
      go_ret
      exact ⟨ret_bool (by rw [Bool.eq_iff_iff]; simp; omega), below_drewN (by (repeat (first | with_reducible exact Below.refl _ _ | with_reducible refine Below.drew ?_ | (with_reducible refine Below.alloc ?_ ?hsz _; case hsz => ((try simp) <;> (try omega))) | (with_reducible refine Below.setCell ?_ ?hsz _; case hsz => ((try simp) <;> (try omega))) | (with_reducible refine below_step (by with_reducible assumption) ?hsz ?_; case hsz => ((try simp) <;> (try omega)))))) _⟩
    · have e : fracB n d = false := by
        have : ¬ n ≤ 1000000000000 := fun hh => by rw [inB_true.2 ⟨by omega, by omega⟩] at h2; cases h2
        simp [fracB, this]
      rw [h2] at I2
      rw [e]
      go_enter Try.func136, Try.ntmps136
      go_wp2_with fail
      go_big_quiet (first | (go_at_call 55; with_reducible exact quiet_eq (I1.out _)) | (go_at_call 55; with_reducible exact quiet_eq (I2.out _)) | (go_at_call 142; with_reducible exact quiet_eq (abs_any n _)) | (go_at_call 141; with_reducible exact quiet_eq (sgcd_any n d hn hd _)))
      go_wp2_with fail
      go_ret
      exact ⟨rfl, below_drewN (by (repeat (first | with_reducible exact Below.refl _ _ | with_reducible refine Below.drew ?_ | (with_reducible refine Below.alloc ?_ ?hsz _; case hsz => ((try simp) <;> (try omega))) | (with_reducible refine Below.setCell ?_ ?hsz _; case hsz => ((try simp) <;> (try omega))) | (with_reducible refine below_step (by with_reducible assumption) ?hsz ?_; case hsz => ((try simp) <;> (try omega)))))) _⟩
  · have e : fracB n d = false := by
      rw [Bool.eq_false_iff]
      intro hh
      obtain ⟨q1, q2, _⟩ := fracB_true hh
      rw [inB_true.2 ⟨by omega, by omega⟩] at h1
      cases h1
    rw [h1] at I1
    rw [e]
    go_enter Try.func136, Try.ntmps136
    go_wp2_with fail
    go_big_quiet (first | (go_at_call 55; with_reducible exact quiet_eq (I1.out _)) | (go_at_call 55; with_reducible exact quiet_eq (I2.out _)) | (go_at_call 142; with_reducible exact quiet_eq (abs_any n _)) | (go_at_call 141; with_reducible exact quiet_eq (sgcd_any n d hn hd _)))
    go_wp2_with fail
    go_ret
    exact ⟨rfl, below_drewN (by (repeat (first | with_reducible exact Below.refl _ _ | with_reducible refine Below.drew ?_ | (with_reducible refine Below.alloc ?_ ?hsz _; case hsz => ((try simp) <;> (try omega))) | (with_reducible refine Below.setCell ?_ ?hsz _; case hsz => ((try simp) <;> (try omega))) | (with_reducible refine below_step (by with_reducible assumption) ?hsz ?_; case hsz => ((try simp) <;> (try omega)))))) _⟩
set_option maxHeartbeats 2000000 in
theorem smake_any (a b : Nat) (ha : a ≤ 1000000000000000) (hb : b ≤ 1000000000000000) (hb1 : 1 ≤ b) (w : World) : Calls Try.prog 130 #[.int .i64 a, .int .i64 b] w (FracQ (redB a b) (redN a b) (redD a b) w) := by
  have g0 : 1 ≤ Nat.gcd a b := Nat.gcd_pos_of_pos_right a hb1
  have t1 := tdiv_nat a (Nat.gcd a b)
  have t2 := tdiv_nat b (Nat.gcd a b)
  have l1 : a / Nat.gcd a b ≤ a := Nat.div_le_self _ _
  have l2 : b / Nat.gcd a b ≤ b := Nat.div_le_self _ _
  have HB := Lib.hid (show redB a b = fracB (a / Nat.gcd a b) (b / Nat.gcd a b) from rfl)
  have HN := Lib.hid (show redN a b = a / Nat.gcd a b from rfl)
  have HD := Lib.hid (show redD a b = b / Nat.gcd a b from rfl)
  have HG := Lib.hid (sgcd_any a b ha hb)
  rw [HB.out, HN.out, HD.out]
  clear HB HN HD
  generalize Nat.gcd a b = g at *
  generalize a / g = x at *
  generalize b / g = y at *
  have hz : ((g : Int) == 0) = false := by simp; omega
  have hz' : ¬ (g : Int) = 0 := by omega
  have hneg : decide ((b : Int) < 0) = false := by simp
  go_enter Try.func130, Try.ntmps130
  go_wp2_with (go_at_call 142; (with_reducible refine (abs_any a _).mono ?_); rintro e w' ⟨rfl, rfl⟩)
  with_reducible refine (HG.out _).mono ?_
  rintro e w1 ⟨rfl, rfl⟩
  obtain ⟨w1, hw1⟩ : ∃ w1, w1 = w.alloc (.cells #[.int .i64 0, .int .i64 0] 144) := ⟨_, rfl⟩
  rw [← hw1]
  have X1 : Box w1 w.heap.size 144 #[.int .i64 0, .int .i64 0] := by rw [hw1]; exact Box.made _ _ _
  have B1 : Below w.heap.size w w1 := by rw [hw1]; (repeat (first | with_reducible exact Below.refl _ _ | with_reducible refine Below.drew ?_ | (with_reducible refine Below.alloc ?_ ?hsz _; case hsz => ((try simp) <;> (try omega))) | (with_reducible refine Below.setCell ?_ ?hsz _; case hsz => ((try simp) <;> (try omega))) | (with_reducible refine below_step (by with_reducible assumption) ?hsz ?_; case hsz => ((try simp) <;> (try omega)))))
  have z1 := B1.size
  have zx := X1.lt
  clear hw1 HG
  obtain ⟨e1, e2, e3, e4⟩ := X1.two
  have HO := Lib.hid (sfracOk_any x y (by omega) (by omega))
  rcases Bool.eq_false_or_eq_true (fracB x y) with k1 | k1
  · go_wp2_with fail
    go_region
    all_goals go_wp2_with fail
    all_goals (with_reducible refine (HO.out _).mono ?_); (rintro e w2 ⟨rfl, hb2⟩); rw [k1]; (have hz2 := hb2.size); simp only [World.size_drew, World.size_alloc] at hz2; (obtain ⟨hc2, hf2⟩ := bcell hb2); (try simp only [World.size_drew] at hc2 hf2); (have q2 : w.heap.size < w2.heap.size := by omega); (have q3 : w1.heap.size < w2.heap.size := by omega); (have X2 := ((X1.alloc (.cells #[.int .i64 x, .int .i64 y] 144)).drew).kept hb2); (obtain ⟨f1, f2, f3, f4⟩ := X2.two)
    all_goals go_wp2_with fail
    all_goals exact bodyPost_ret (v := .tuple #[.agg #[.int .i64 x, .int .i64 y], .bool true]) (by simp [results, Try.results130, go_sem, *]) rfl ⟨by simp [k1], by (repeat (first | with_reducible exact Below.refl _ _ | with_reducible refine Below.drew ?_ | (with_reducible refine Below.alloc ?_ ?hsz _; case hsz => ((try simp) <;> (try omega))) | (with_reducible refine Below.setCell ?_ ?hsz _; case hsz => ((try simp) <;> (try omega))) | (with_reducible refine below_step (by with_reducible assumption) ?hsz ?_; case hsz => ((try simp) <;> (try omega)))))⟩
  · go_wp2_with fail
    go_region
    all_goals go_wp2_with fail
    all_goals (with_reducible refine (HO.out _).mono ?_); (rintro e w2 ⟨rfl, hb2⟩); rw [k1]; (have hz2 := hb2.size); simp only [World.size_drew, World.size_alloc] at hz2; (obtain ⟨hc2, hf2⟩ := bcell hb2); (try simp only [World.size_drew] at hc2 hf2); (have q2 : w.heap.size < w2.heap.size := by omega); (have q3 : w1.heap.size < w2.heap.size := by omega); (have X2 := ((X1.alloc (.cells #[.int .i64 x, .int .i64 y] 144)).drew).kept hb2); (obtain ⟨f1, f2, f3, f4⟩ := X2.two)
    all_goals go_wp2_with fail
    all_goals exact bodyPost_ret (v := .tuple #[.agg #[.int .i64 0, .int .i64 0], .bool false]) (by simp [results, Try.results130, go_sem, *]) rfl ⟨by simp [k1], by (repeat (first | with_reducible exact Below.refl _ _ | with_reducible refine Below.drew ?_ | (with_reducible refine Below.alloc ?_ ?hsz _; case hsz => ((try simp) <;> (try omega))) | (with_reducible refine Below.setCell ?_ ?hsz _; case hsz => ((try simp) <;> (try omega))) | (with_reducible refine below_step (by with_reducible assumption) ?hsz ?_; case hsz => ((try simp) <;> (try omega)))))⟩
end Go.Proofs.Ytgfcmeiffhffaaa
namespace Go.Proofs.Ytgfcmeiffhffaaa
open Go.RowKit

set_option maxHeartbeats 1000000 in
theorem gcdI_any (a b : Int) (a0 : -1000000000000000 ≤ a) (a1 : a ≤ 1000000000000000) (b0 : -1000000000000000 ≤ b) (b1 : b ≤ 1000000000000000) (w : World) : Calls Try.prog 119 #[.int .i64 a, .int .i64 b] w fun e w' => e = .returned (.int .i64 (Nat.gcd a.natAbs b.natAbs : Nat)) ∧ Below w.heap.size w w' := by
  go_enter Try.func119, Try.ntmps119
  go_wp2_with fail
  go_loopw [0, 1] (fun x y wr => ∃ m k : Int, x = .int .i64 m ∧ y = .int .i64 k ∧ -1000000000000000 ≤ m ∧ m ≤ 1000000000000000 ∧ -1000000000000000 ≤ k ∧ k ≤ 1000000000000000 ∧ Hid (Nat.gcd m.natAbs k.natAbs = Nat.gcd a.natAbs b.natAbs) ∧ Below w.heap.size w wr) (fun _ y _ => (intOf y).natAbs)
  case atStart => exact ⟨a, b, rfl, rfl, a0, a1, b0, b1, rfl, Below.refl _ _⟩
  case round =>
    obtain ⟨m, k, rfl, rfl, m0, m1, k0, k1, hg, hbw⟩ := hrel
    by_cases h0 : k = 0
    · subst h0
      have HG := Lib.hid (show ((Nat.gcd a.natAbs b.natAbs : Nat) : Int) = (m.natAbs : Int) by rw [← hg.out, Int.natAbs_zero, Nat.gcd_zero_right])
      have hn : IntKind.i64.wrap (-m) = -m := by rw [IntKind.wrap_i64]; omega
      go_wp2
      all_goals
        go_ret
        exact ⟨ret_int (by rw [HG.out]; first | omega | (simp; omega) | (split <;> omega)), hbw⟩
    · have hz : (k == 0) = false := by simp; omega
      have hz' : (k != 0) = true := by simp; omega
      have ht : (m.tmod k).natAbs = m.natAbs % k.natAbs := Int.natAbs_tmod ..
      have hlt : m.natAbs % k.natAbs < k.natAbs := Nat.mod_lt _ (by omega)
      have HB := Lib.hid hbw
      have HM := Lib.hid (show Nat.gcd k.natAbs (m.tmod k).natAbs = Nat.gcd a.natAbs b.natAbs by rw [ht, ← hg.out, Nat.gcd_comm m.natAbs k.natAbs, Nat.gcd_rec k.natAbs m.natAbs, Nat.gcd_comm])
      have hw : IntKind.i64.wrap (m.tmod k) = m.tmod k := by rw [IntKind.wrap_i64]; omega
      clear hbw hg
      go_wp2_with fail
      go_quiet (fail)
      go_wp2
      go_roundw
      case rel => exact ⟨k, m.tmod k, rfl, rfl, k0, k1, by omega, by omega, HM.out, below_drewN HB.out _⟩
      case measure => simp [intOf]; omega
def fracI (n d : Int) : Bool := inB d 1 1000000 && (inB n (-1000000000000) 1000000000000 && decide (Nat.gcd n.natAbs d.natAbs = 1))
theorem fracOkI_any (n d : Int) (w : World) : Calls Try.prog 93 #[.agg #[.int .i64 n, .int .i64 d]] w fun e w' => e = .returned (.bool (fracI n d)) ∧ Below w.heap.size w w' := by
  rcases Bool.eq_false_or_eq_true (inB d 1 1000000) with h1 | h1
  · rcases Bool.eq_false_or_eq_true (inB n (-1000000000000) 1000000000000) with h2 | h2
    · obtain ⟨a1, a2⟩ := inB_true.1 h1
      obtain ⟨b1, b2⟩ := inB_true.1 h2
      have HE := Lib.hid (show fracI n d = decide (Nat.gcd n.natAbs d.natAbs = 1) by simp only [fracI, h1, h2, Bool.true_and])
      go_enter Try.func93, Try.ntmps93
      go_wp2_with (first | (go_at_call 59; (with_reducible refine (within_any d 1 1000000 _).mono ?_); rintro e w' ⟨rfl, rfl⟩) | (go_at_call 59; (with_reducible refine (within_any n (-1000000000000) 1000000000000 _).mono ?_); rintro e w' ⟨rfl, rfl⟩) | (go_at_call 119; (with_reducible refine (gcdI_any n d (by omega) (by omega) (by omega) (by omega) _).mono ?_); rintro e w1 ⟨rfl, hb1⟩; obtain ⟨hc1, hf1⟩ := bcell hb1; (try simp only [World.size_drew] at hc1 hf1); have hz1 := hb1.size; (try simp at hz1); (try have q1_0 : w.heap.size < w1.heap.size := by omega); (try have q1_1 : w.heap.size + 1 < w1.heap.size := by omega); (try have q1_2 : w.heap.size + 2 < w1.heap.size := by omega); (try have q1_3 : w.heap.size + 3 < w1.heap.size := by omega); (try have q1_4 : w.heap.size + 4 < w1.heap.size := by omega); (try have q1_0_0 : w0.heap.size < w1.heap.size := by omega); (try have q1_0_1 : w0.heap.size + 1 < w1.heap.size := by omega); (try have q1_2_0 : w2.heap.size < w1.heap.size := by omega); (try have q1_2_1 : w2.heap.size + 1 < w1.heap.size := by omega); (try have q1_3_0 : w3.heap.size < w1.heap.size := by omega); (try have q1_3_1 : w3.heap.size + 1 < w1.heap.size := by omega); (try have q1_4_0 : w4.heap.size < w1.heap.size := by omega); (try have q1_4_1 : w4.heap.size + 1 < w1.heap.size := by omega); (try have q1_5_0 : w5.heap.size < w1.heap.size := by omega); (try have q1_5_1 : w5.heap.size + 1 < w1.heap.size := by omega); (try have q1_6_0 : w6.heap.size < w1.heap.size := by omega); (try have q1_6_1 : w6.heap.size + 1 < w1.heap.size := by omega); (try have u1_b : b < w1.heap.size := by omega); (try have u1_q : q < w1.heap.size := by omega); (try have u1_g : g < w1.heap.size := by omega); (try have u1_g1 : g1 < w1.heap.size := by omega); (try have u1_g2 : g2 < w1.heap.size := by omega); (try have u1_g3 : g3 < w1.heap.size := by omega); (try have u1_g4 : g4 < w1.heap.size := by omega); (try have u1_g5 : g5 < w1.heap.size := by omega)))
      go_ret
      exact ⟨ret_bool (by rw [HE.out, Bool.eq_iff_iff]; simp; omega), by (repeat (first | with_reducible exact Below.refl _ _ | with_reducible refine Below.drew ?_ | (with_reducible refine Below.alloc ?_ ?hsz _; case hsz => ((try simp) <;> (try omega))) | (with_reducible refine Below.setCell ?_ ?hsz _; case hsz => ((try simp) <;> (try omega))) | (with_reducible refine below_step (by with_reducible assumption) ?hsz ?_; case hsz => ((try simp) <;> (try omega)))))⟩
    · have HE := Lib.hid (show fracI n d = false by simp only [fracI, h2, Bool.false_and, Bool.and_false])
      go_enter Try.func93, Try.ntmps93
      go_wp2_with (first | (go_at_call 59; (with_reducible refine (within_any d 1 1000000 _).mono ?_); rintro e w' ⟨rfl, rfl⟩) | (go_at_call 59; (with_reducible refine (within_any n (-1000000000000) 1000000000000 _).mono ?_); rintro e w' ⟨rfl, rfl⟩))
      go_ret
      exact ⟨ret_bool HE.out.symm, by (repeat (first | with_reducible exact Below.refl _ _ | with_reducible refine Below.drew ?_ | (with_reducible refine Below.alloc ?_ ?hsz _; case hsz => ((try simp) <;> (try omega))) | (with_reducible refine Below.setCell ?_ ?hsz _; case hsz => ((try simp) <;> (try omega))) | (with_reducible refine below_step (by with_reducible assumption) ?hsz ?_; case hsz => ((try simp) <;> (try omega)))))⟩
  · have HE := Lib.hid (show fracI n d = false by simp only [fracI, h1, Bool.false_and])
    go_enter Try.func93, Try.ntmps93
    go_wp2_with (first | (go_at_call 59; (with_reducible refine (within_any d 1 1000000 _).mono ?_); rintro e w' ⟨rfl, rfl⟩))
    go_ret
    exact ⟨ret_bool HE.out.symm, by (repeat (first | with_reducible exact Below.refl _ _ | with_reducible refine Below.drew ?_ | (with_reducible refine Below.alloc ?_ ?hsz _; case hsz => ((try simp) <;> (try omega))) | (with_reducible refine Below.setCell ?_ ?hsz _; case hsz => ((try simp) <;> (try omega))) | (with_reducible refine below_step (by with_reducible assumption) ?hsz ?_; case hsz => ((try simp) <;> (try omega)))))⟩
theorem absI_any (a : Int) (a0 : -1000000000000000 ≤ a) (w : World) : Calls Try.prog 142 #[.int .i64 a] w fun e w' => e = .returned (.int .i64 (a.natAbs : Nat)) ∧ w = w' := by
  rcases Bool.eq_false_or_eq_true (decide (a < 0)) with h | h
  · have := of_decide_eq_true h
    have hw : IntKind.i64.wrap (-a) = -a := by rw [IntKind.wrap_i64]; omega
    go_enter Try.func142, Try.ntmps142
    go_wp2
    go_ret
    exact ⟨ret_int (by omega), rfl⟩
  · have := of_decide_eq_false h
    go_enter Try.func142, Try.ntmps142
    go_wp2
    go_ret
    exact ⟨ret_int (by omega), rfl⟩
set_option maxHeartbeats 2000000 in
theorem sfracOkI_any (n d : Int) (w : World) : Calls Try.prog 136 #[.agg #[.int .i64 n, .int .i64 d]] w fun e w' => e = .returned (.bool (fracI n d)) ∧ Below w.heap.size w w' := by
  have I1 := Lib.hid (l01In_any d 1 1000000)
  have I2 := Lib.hid (l01In_any n (-1000000000000) 1000000000000)
  rcases Bool.eq_false_or_eq_true (inB d 1 1000000) with h1 | h1
  · rw [h1] at I1
    rcases Bool.eq_false_or_eq_true (inB n (-1000000000000) 1000000000000) with h2 | h2
    · rw [h2] at I2
      obtain ⟨a1, a2⟩ := inB_true.1 h1
      obtain ⟨b1, b2⟩ := inB_true.1 h2
      have HE := Lib.hid (show fracI n d = decide (Nat.gcd n.natAbs d.natAbs = 1) by simp only [fracI, h1, h2, Bool.true_and])
      obtain ⟨k, rfl⟩ := Int.eq_ofNat_of_zero_le (show 0 ≤ d by omega)
      rw [Int.natAbs_natCast] at HE
      go_enter Try.func136, Try.ntmps136
      go_wp2_with fail
      go_big_quiet (first | (go_at_call 55; with_reducible exact quiet_eq (I1.out _)) | (go_at_call 55; with_reducible exact quiet_eq (I2.out _)) | (go_at_call 142; with_reducible exact quiet_eq (absI_any n (by omega) _)) | (go_at_call 141; with_reducible exact quiet_eq (sgcd_any n.natAbs k (by omega) (by omega) _)))
      go_wp2_with fail
      go_ret
      exact ⟨ret_bool (by rw [HE.out, Bool.eq_iff_iff]; simp; omega), below_drewN (by (repeat (first | with_reducible exact Below.refl _ _ | with_reducible refine Below.drew ?_ | (with_reducible refine Below.alloc ?_ ?hsz _; case hsz => ((try simp) <;> (try omega))) | (with_reducible refine Below.setCell ?_ ?hsz _; case hsz => ((try simp) <;> (try omega))) | (with_reducible refine below_step (by with_reducible assumption) ?hsz ?_; case hsz => ((try simp) <;> (try omega)))))) _⟩
    · rw [h2] at I2
      have HE := Lib.hid (show fracI n d = false by simp only [fracI, h2, Bool.false_and, Bool.and_false])
      go_enter Try.func136, Try.ntmps136
      go_wp2_with fail
      go_big_quiet (first | (go_at_call 55; with_reducible exact quiet_eq (I1.out _)) | (go_at_call 55; with_reducible exact quiet_eq (I2.out _)))
      go_wp2_with fail
      go_ret
      exact ⟨ret_bool HE.out.symm, below_drewN (by (repeat (first | with_reducible exact Below.refl _ _ | with_reducible refine Below.drew ?_ | (with_reducible refine Below.alloc ?_ ?hsz _; case hsz => ((try simp) <;> (try omega))) | (with_reducible refine Below.setCell ?_ ?hsz _; case hsz => ((try simp) <;> (try omega))) | (with_reducible refine below_step (by with_reducible assumption) ?hsz ?_; case hsz => ((try simp) <;> (try omega)))))) _⟩
  · rw [h1] at I1
    have HE := Lib.hid (show fracI n d = false by simp only [fracI, h1, Bool.false_and])
    go_enter Try.func136, Try.ntmps136
    go_wp2_with fail
    go_big_quiet (first | (go_at_call 55; with_reducible exact quiet_eq (I1.out _)))
    go_wp2_with fail
    go_ret
    exact ⟨ret_bool HE.out.symm, below_drewN (by (repeat (first | with_reducible exact Below.refl _ _ | with_reducible refine Below.drew ?_ | (with_reducible refine Below.alloc ?_ ?hsz _; case hsz => ((try simp) <;> (try omega))) | (with_reducible refine Below.setCell ?_ ?hsz _; case hsz => ((try simp) <;> (try omega))) | (with_reducible refine below_step (by with_reducible assumption) ?hsz ?_; case hsz => ((try simp) <;> (try omega)))))) _⟩
end Go.Proofs.Ytgfcmeiffhffaaa
