/- Contracts of FracOk, of the program and of the reference, at all numbers. -/
import Derived.Test.YtgfcmeiffhffaaaGcdS
namespace Go.Proofs.Ytgfcmeiffhffaaa
open Go.RowKit

set_option maxHeartbeats 1000000 in
theorem gcdI_any (a b : Int) (a0 : -1000000000000000 ≤ a) (a1 : a ≤ 1000000000000000) (b0 : -1000000000000000 ≤ b) (b1 : b ≤ 1000000000000000) (w : World) : Calls Try.prog 119 #[.int .i64 a, .int .i64 b] w fun e w' => e = .returned (.int .i64 (Nat.gcd a.natAbs b.natAbs : Nat)) ∧ Below w.heap.size w w' := by
  go_enter Try.func119, Try.ntmps119
  go_wp2_with fail
  go_loopw [0, 1] (fun x y wr => ∃ m k : Int, x = .int .i64 m ∧ y = .int .i64 k ∧ -1000000000000000 ≤ m ∧ m ≤ 1000000000000000 ∧ -1000000000000000 ≤ k ∧ k ≤ 1000000000000000 ∧ Hid (Nat.gcd m.natAbs k.natAbs = Nat.gcd a.natAbs b.natAbs) ∧ Below w.heap.size w wr) (fun _ y _ => (intOf y).natAbs)
  case atStart => exact ⟨a, b, rfl, rfl, a0, a1, b0, b1, rfl, Below.refl _ _⟩
  case round =>
    obtain ⟨m, k, rfl, rfl, m0, m1, k0, k1, hg, hbw⟩ := hrel
    by_cases h0 : k = 0
    · subst h0
      have HG := Lib.hid (show ((Nat.gcd a.natAbs b.natAbs : Nat) : Int) = (m.natAbs : Int) by rw [← hg.out, Int.natAbs_zero, Nat.gcd_zero_right])
      have hn : IntKind.i64.wrap (-m) = -m := by rw [IntKind.wrap_i64]; omega
      go_wp2
      all_goals
        go_ret
        exact ⟨ret_int (by rw [HG.out]; first | omega | (simp; omega) | (split <;> omega)), hbw⟩
    · have hz : (k == 0) = false := by simp; omega
      have hz' : (k != 0) = true := by simp; omega
      have ht : (m.tmod k).natAbs = m.natAbs % k.natAbs := Int.natAbs_tmod ..
      have hlt : m.natAbs % k.natAbs < k.natAbs := Nat.mod_lt _ (by omega)
      have HB := Lib.hid hbw
      have HM := Lib.hid (show Nat.gcd k.natAbs (m.tmod k).natAbs = Nat.gcd a.natAbs b.natAbs by rw [ht, ← hg.out, Nat.gcd_comm m.natAbs k.natAbs, Nat.gcd_rec k.natAbs m.natAbs, Nat.gcd_comm])
      have hw : IntKind.i64.wrap (m.tmod k) = m.tmod k := by rw [IntKind.wrap_i64]; omega
      clear hbw hg
      go_wp2_with fail
      go_quiet (fail)
      go_wp2
      go_roundw
      case rel => exact ⟨k, m.tmod k, rfl, rfl, k0, k1, by omega, by omega, HM.out, below_drewN HB.out _⟩
      case measure => simp [intOf]; omega
def fracI (n d : Int) : Bool := inB d 1 1000000 && (inB n (-1000000000000) 1000000000000 && decide (Nat.gcd n.natAbs d.natAbs = 1))
theorem fracOkI_any (n d : Int) (w : World) : Calls Try.prog 93 #[.agg #[.int .i64 n, .int .i64 d]] w fun e w' => e = .returned (.bool (fracI n d)) ∧ Below w.heap.size w w' := by
  rcases Bool.eq_false_or_eq_true (inB d 1 1000000) with h1 | h1
  · rcases Bool.eq_false_or_eq_true (inB n (-1000000000000) 1000000000000) with h2 | h2
    · obtain ⟨a1, a2⟩ := inB_true.1 h1
      obtain ⟨b1, b2⟩ := inB_true.1 h2
      have HE := Lib.hid (show fracI n d = decide (Nat.gcd n.natAbs d.natAbs = 1) by simp only [fracI, h1, h2, Bool.true_and])
      go_enter Try.func93, Try.ntmps93
      go_wp2_with (first | (go_at_call 59; (with_reducible refine (within_any d 1 1000000 _).mono ?_); rintro e w' ⟨rfl, rfl⟩) | (go_at_call 59; (with_reducible refine (within_any n (-1000000000000) 1000000000000 _).mono ?_); rintro e w' ⟨rfl, rfl⟩) | (go_at_call 119; (with_reducible refine (gcdI_any n d (by omega) (by omega) (by omega) (by omega) _).mono ?_); rintro e w1 ⟨rfl, hb1⟩; obtain ⟨hc1, hf1⟩ := bcell hb1; (try simp only [World.size_drew] at hc1 hf1); have hz1 := hb1.size; (try simp at hz1); (try have q1_0 : w.heap.size < w1.heap.size := by omega); (try have q1_1 : w.heap.size + 1 < w1.heap.size := by omega); (try have q1_2 : w.heap.size + 2 < w1.heap.size := by omega); (try have q1_3 : w.heap.size + 3 < w1.heap.size := by omega); (try have q1_4 : w.heap.size + 4 < w1.heap.size := by omega); (try have q1_0_0 : w0.heap.size < w1.heap.size := by omega); (try have q1_0_1 : w0.heap.size + 1 < w1.heap.size := by omega); (try have q1_2_0 : w2.heap.size < w1.heap.size := by omega); (try have q1_2_1 : w2.heap.size + 1 < w1.heap.size := by omega); (try have q1_3_0 : w3.heap.size < w1.heap.size := by omega); (try have q1_3_1 : w3.heap.size + 1 < w1.heap.size := by omega); (try have q1_4_0 : w4.heap.size < w1.heap.size := by omega); (try have q1_4_1 : w4.heap.size + 1 < w1.heap.size := by omega); (try have q1_5_0 : w5.heap.size < w1.heap.size := by omega); (try have q1_5_1 : w5.heap.size + 1 < w1.heap.size := by omega); (try have q1_6_0 : w6.heap.size < w1.heap.size := by omega); (try have q1_6_1 : w6.heap.size + 1 < w1.heap.size := by omega); (try have u1_b : b < w1.heap.size := by omega); (try have u1_q : q < w1.heap.size := by omega); (try have u1_g : g < w1.heap.size := by omega); (try have u1_g1 : g1 < w1.heap.size := by omega); (try have u1_g2 : g2 < w1.heap.size := by omega); (try have u1_g3 : g3 < w1.heap.size := by omega); (try have u1_g4 : g4 < w1.heap.size := by omega); (try have u1_g5 : g5 < w1.heap.size := by omega)))
      go_ret
      exact ⟨ret_bool (by rw [HE.out, Bool.eq_iff_iff]; simp; omega), by (repeat (first | with_reducible exact Below.refl _ _ | with_reducible refine Below.drew ?_ | (with_reducible refine Below.alloc ?_ ?hsz _; case hsz => ((try simp) <;> (try omega))) | (with_reducible refine Below.setCell ?_ ?hsz _; case hsz => ((try simp) <;> (try omega))) | (with_reducible refine below_step (by with_reducible assumption) ?hsz ?_; case hsz => ((try simp) <;> (try omega)))))⟩
    · have HE := Lib.hid (show fracI n d = false by simp only [fracI, h2, Bool.false_and, Bool.and_false])
      go_enter Try.func93, Try.ntmps93
      go_wp2_with (first | (go_at_call 59; (with_reducible refine (within_any d 1 1000000 _).mono ?_); rintro e w' ⟨rfl, rfl⟩) | (go_at_call 59; (with_reducible refine (within_any n (-1000000000000) 1000000000000 _).mono ?_); rintro e w' ⟨rfl, rfl⟩))
      go_ret
      exact ⟨ret_bool HE.out.symm, by (repeat (first | with_reducible exact Below.refl _ _ | with_reducible refine Below.drew ?_ | (with_reducible refine Below.alloc ?_ ?hsz _; case hsz => ((try simp) <;> (try omega))) | (with_reducible refine Below.setCell ?_ ?hsz _; case hsz => ((try simp) <;> (try omega))) | (with_reducible refine below_step (by with_reducible assumption) ?hsz ?_; case hsz => ((try simp) <;> (try omega)))))⟩
  · have HE := Lib.hid (show fracI n d = false by simp only [fracI, h1, Bool.false_and])
    go_enter Try.func93, Try.ntmps93
    go_wp2_with (first | (go_at_call 59; (with_reducible refine (within_any d 1 1000000 _).mono ?_); rintro e w' ⟨rfl, rfl⟩))
    go_ret
    exact ⟨ret_bool HE.out.symm, by (repeat (first | with_reducible exact Below.refl _ _ | with_reducible refine Below.drew ?_ | (with_reducible refine Below.alloc ?_ ?hsz _; case hsz => ((try simp) <;> (try omega))) | (with_reducible refine Below.setCell ?_ ?hsz _; case hsz => ((try simp) <;> (try omega))) | (with_reducible refine below_step (by with_reducible assumption) ?hsz ?_; case hsz => ((try simp) <;> (try omega)))))⟩
theorem absI_any (a : Int) (a0 : -1000000000000000 ≤ a) (w : World) : Calls Try.prog 142 #[.int .i64 a] w fun e w' => e = .returned (.int .i64 (a.natAbs : Nat)) ∧ w = w' := by
  rcases Bool.eq_false_or_eq_true (decide (a < 0)) with h | h
  · have := of_decide_eq_true h
    have hw : IntKind.i64.wrap (-a) = -a := by rw [IntKind.wrap_i64]; omega
    go_enter Try.func142, Try.ntmps142
    go_wp2
    go_ret
    exact ⟨ret_int (by omega), rfl⟩
  · have := of_decide_eq_false h
    go_enter Try.func142, Try.ntmps142
    go_wp2
    go_ret
    exact ⟨ret_int (by omega), rfl⟩
set_option maxHeartbeats 2000000 in
theorem sfracOkI_any (n d : Int) (w : World) : Calls Try.prog 136 #[.agg #[.int .i64 n, .int .i64 d]] w fun e w' => e = .returned (.bool (fracI n d)) ∧ Below w.heap.size w w' := by
  have I1 := Lib.hid (l01In_any d 1 1000000)
  have I2 := Lib.hid (l01In_any n (-1000000000000) 1000000000000)
  rcases Bool.eq_false_or_eq_true (inB d 1 1000000) with h1 | h1
  · rw [h1] at I1
    rcases Bool.eq_false_or_eq_true (inB n (-1000000000000) 1000000000000) with h2 | h2
    · rw [h2] at I2
      obtain ⟨a1, a2⟩ := inB_true.1 h1
      obtain ⟨b1, b2⟩ := inB_true.1 h2
      have HE := Lib.hid (show fracI n d = decide (Nat.gcd n.natAbs d.natAbs = 1) by simp only [fracI, h1, h2, Bool.true_and])
      obtain ⟨k, rfl⟩ := Int.eq_ofNat_of_zero_le (show 0 ≤ d by omega)
      rw [Int.natAbs_natCast] at HE
      go_enter Try.func136, Try.ntmps136
      go_wp2_with fail
      go_big_quiet (first | (go_at_call 55; with_reducible exact quiet_eq (I1.out _)) | (go_at_call 55; with_reducible exact quiet_eq (I2.out _)) | (go_at_call 142; with_reducible exact quiet_eq (absI_any n (by omega) _)) | (go_at_call 141; with_reducible exact quiet_eq (sgcd_any n.natAbs k (by omega) (by omega) _)))
      go_wp2_with fail
      go_ret
      exact ⟨ret_bool (by rw [HE.out, Bool.eq_iff_iff]; simp; omega), below_drewN (by (repeat (first | with_reducible exact Below.refl _ _ | with_reducible refine Below.drew ?_ | (with_reducible refine Below.alloc ?_ ?hsz _; case hsz => ((try simp) <;> (try omega))) | (with_reducible refine Below.setCell ?_ ?hsz _; case hsz => ((try simp) <;> (try omega))) | (with_reducible refine below_step (by with_reducible assumption) ?hsz ?_; case hsz => ((try simp) <;> (try omega)))))) _⟩
    · rw [h2] at I2
      have HE := Lib.hid (show fracI n d = false by simp only [fracI, h2, Bool.false_and, Bool.and_false])
      go_enter Try.func136, Try.ntmps136
      go_wp2_with fail
      go_big_quiet (first | (go_at_call 55; with_reducible exact quiet_eq (I1.out _)) | (go_at_call 55; with_reducible exact quiet_eq (I2.out _)))
      go_wp2_with fail
      go_ret
      exact ⟨ret_bool HE.out.symm, below_drewN (by (repeat (first | with_reducible exact Below.refl _ _ | with_reducible refine Below.drew ?_ | (with_reducible refine Below.alloc ?_ ?hsz _; case hsz => ((try simp) <;> (try omega))) | (with_reducible refine Below.setCell ?_ ?hsz _; case hsz => ((try simp) <;> (try omega))) | (with_reducible refine below_step (by with_reducible assumption) ?hsz ?_; case hsz => ((try simp) <;> (try omega)))))) _⟩
  · rw [h1] at I1
    have HE := Lib.hid (show fracI n d = false by simp only [fracI, h1, Bool.false_and])
    go_enter Try.func136, Try.ntmps136
    go_wp2_with fail
    go_big_quiet (first | (go_at_call 55; with_reducible exact quiet_eq (I1.out _)))
    go_wp2_with fail
    go_ret
    exact ⟨ret_bool HE.out.symm, below_drewN (by (repeat (first | with_reducible exact Below.refl _ _ | with_reducible refine Below.drew ?_ | (with_reducible refine Below.alloc ?_ ?hsz _; case hsz => ((try simp) <;> (try omega))) | (with_reducible refine Below.setCell ?_ ?hsz _; case hsz => ((try simp) <;> (try omega))) | (with_reducible refine below_step (by with_reducible assumption) ?hsz ?_; case hsz => ((try simp) <;> (try omega)))))) _⟩
end Go.Proofs.Ytgfcmeiffhffaaa
