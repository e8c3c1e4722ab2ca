/- Contracts of FormulaOk, of the program and of the reference. -/
import Derived.RegionTactic
import Derived.BigRegion
import Derived.Test.YtgfcmeiffhffaaaJFracI
import Derived.Test.YtgfcmeiffhffaaaJRecMore
namespace Go.Proofs.Ytgfcmeiffhffaaa
open Go.RowKit

/-- Is a node right at place t? -/
def nodeB (k a b c p q t : Int) : Bool :=
  if k = 1 then decide (a = 0) && (decide (b = 0) && (decide (c = 0) && fracI p q))
  else decide (p = 0) && (decide (q = 0) && (
    if k = 2 then inB a 0 7 && (decide (b = 0) && decide (c = 0))
    else if inB k 3 8 = true then inB a 0 (t - 1) && (inB b 0 (t - 1) && decide (c = 0))
    else decide (k = 9) && (inB a 0 (t - 1) && (inB b 0 (t - 1) && inB c 0 (t - 1)))))
set_option maxHeartbeats 8000000 in
theorem nodeOk_any (k a b c p q : Int) (t : Nat) (ht : t ≤ 1048576) (w : World) : Calls Try.prog 127 #[.agg #[.int .i64 k, .int .i64 a, .int .i64 b, .int .i64 c, .int .i64 p, .int .i64 q], .int .i64 t] w fun e w' => e = .returned (.bool (nodeB k a b c p q t)) ∧ Below w.heap.size w w' := by
  by_cases k1 : k = 1
  · subst k1
    go_enter Try.func127, Try.ntmps127
    go_wp2_with (go_at_call 93; (with_reducible refine (fracOkI_any p q _).mono ?_); rintro e w1 ⟨rfl, hb1⟩; obtain ⟨hc1, hf1⟩ := bcell hb1; (try simp only [World.size_drew] at hc1 hf1); have hz1 := hb1.size; (try simp at hz1); (try have q1_0 : w.heap.size < w1.heap.size := by omega); (try have q1_1 : w.heap.size + 1 < w1.heap.size := by omega); (try have q1_2 : w.heap.size + 2 < w1.heap.size := by omega); (try have q1_3 : w.heap.size + 3 < w1.heap.size := by omega); (try have q1_4 : w.heap.size + 4 < w1.heap.size := by omega); (try have q1_0_0 : w0.heap.size < w1.heap.size := by omega); (try have q1_0_1 : w0.heap.size + 1 < w1.heap.size := by omega); (try have q1_2_0 : w2.heap.size < w1.heap.size := by omega); (try have q1_2_1 : w2.heap.size + 1 < w1.heap.size := by omega); (try have q1_3_0 : w3.heap.size < w1.heap.size := by omega); (try have q1_3_1 : w3.heap.size + 1 < w1.heap.size := by omega); (try have q1_4_0 : w4.heap.size < w1.heap.size := by omega); (try have q1_4_1 : w4.heap.size + 1 < w1.heap.size := by omega); (try have q1_5_0 : w5.heap.size < w1.heap.size := by omega); (try have q1_5_1 : w5.heap.size + 1 < w1.heap.size := by omega); (try have q1_6_0 : w6.heap.size < w1.heap.size := by omega); (try have q1_6_1 : w6.heap.size + 1 < w1.heap.size := by omega); (try have u1_b : b < w1.heap.size := by omega); (try have u1_q : q < w1.heap.size := by omega); (try have u1_g : g < w1.heap.size := by omega); (try have u1_g1 : g1 < w1.heap.size := by omega); (try have u1_g2 : g2 < w1.heap.size := by omega); (try have u1_g3 : g3 < w1.heap.size := by omega); (try have u1_g4 : g4 < w1.heap.size := by omega); (try have u1_g5 : g5 < w1.heap.size := by omega))
    all_goals go_ret
    all_goals exact ⟨ret_bool (by simp [nodeB, *]), by (repeat (first | with_reducible exact Below.refl _ _ | with_reducible refine Below.drew ?_ | (with_reducible refine Below.alloc ?_ ?hsz _; case hsz => ((try simp) <;> (try omega))) | (with_reducible refine Below.setCell ?_ ?hsz _; case hsz => ((try simp) <;> (try omega))) | (with_reducible refine below_step (by with_reducible assumption) ?hsz ?_; case hsz => ((try simp) <;> (try omega)))))⟩
  · have k1' : (k == 1) = false := by simp [k1]
    by_cases k2 : k = 2
    · subst k2
      go_enter Try.func127, Try.ntmps127
      go_wp2_with (go_at_call 59; (with_reducible refine (within_any a 0 7 _).mono ?_); rintro e w' ⟨rfl, rfl⟩)
      all_goals go_ret
      all_goals exact ⟨ret_bool (by simp [nodeB, *]), by (repeat (first | with_reducible exact Below.refl _ _ | with_reducible refine Below.drew ?_ | (with_reducible refine Below.alloc ?_ ?hsz _; case hsz => ((try simp) <;> (try omega))) | (with_reducible refine Below.setCell ?_ ?hsz _; case hsz => ((try simp) <;> (try omega))) | (with_reducible refine below_step (by with_reducible assumption) ?hsz ?_; case hsz => ((try simp) <;> (try omega)))))⟩
    · have k2' : (k == 2) = false := by simp [k2]
      rcases Bool.eq_false_or_eq_true (inB k 3 9) with k3 | k3
      · obtain ⟨m0, m1⟩ := inB_true.1 k3
        have hw : IntKind.i64.wrap ((t : Int) - 1) = (t : Int) - 1 := by rw [IntKind.wrap_i64]; omega
        rcases Bool.eq_false_or_eq_true (decide (0 < t)) with t1 | t1
        · have t2 := of_decide_eq_true t1
          have z0 : inB 0 0 ((t : Int) - 1) = true := inB_true.2 (by omega)
          by_cases k9 : k = 9
          · subst k9
            have k4 : inB 9 3 8 = false := by decide
            rcases Bool.eq_false_or_eq_true (inB a 0 ((t : Int) - 1)) with ia | ia <;> rcases Bool.eq_false_or_eq_true (inB b 0 ((t : Int) - 1)) with ib | ib
            all_goals
              go_enter Try.func127, Try.ntmps127
              go_wp2_with (first | (go_at_call 59; (with_reducible refine (within_any k 3 9 _).mono ?_); rintro e w' ⟨rfl, rfl⟩) | (go_at_call 59; (with_reducible refine (within_any 9 3 9 _).mono ?_); rintro e w' ⟨rfl, rfl⟩) | (go_at_call 59; (with_reducible refine (within_any a 0 ((t : Int) - 1) _).mono ?_); rintro e w' ⟨rfl, rfl⟩) | (go_at_call 59; (with_reducible refine (within_any b 0 ((t : Int) - 1) _).mono ?_); rintro e w' ⟨rfl, rfl⟩) | (go_at_call 59; (with_reducible refine (within_any c 0 ((t : Int) - 1) _).mono ?_); rintro e w' ⟨rfl, rfl⟩) | (go_at_call 59; (with_reducible refine (within_any 0 0 ((t : Int) - 1) _).mono ?_); rintro e w' ⟨rfl, rfl⟩))
              go_big_region
              go_wp2_with (first | (go_at_call 59; (with_reducible refine (within_any k 3 9 _).mono ?_); rintro e w' ⟨rfl, rfl⟩) | (go_at_call 59; (with_reducible refine (within_any 9 3 9 _).mono ?_); rintro e w' ⟨rfl, rfl⟩) | (go_at_call 59; (with_reducible refine (within_any a 0 ((t : Int) - 1) _).mono ?_); rintro e w' ⟨rfl, rfl⟩) | (go_at_call 59; (with_reducible refine (within_any b 0 ((t : Int) - 1) _).mono ?_); rintro e w' ⟨rfl, rfl⟩) | (go_at_call 59; (with_reducible refine (within_any c 0 ((t : Int) - 1) _).mono ?_); rintro e w' ⟨rfl, rfl⟩) | (go_at_call 59; (with_reducible refine (within_any 0 0 ((t : Int) - 1) _).mono ?_); rintro e w' ⟨rfl, rfl⟩))
              all_goals go_ret
              all_goals exact ⟨ret_bool (by simp [nodeB, *]), by (repeat (first | with_reducible exact Below.refl _ _ | with_reducible refine Below.drew ?_ | (with_reducible refine Below.alloc ?_ ?hsz _; case hsz => ((try simp) <;> (try omega))) | (with_reducible refine Below.setCell ?_ ?hsz _; case hsz => ((try simp) <;> (try omega))) | (with_reducible refine below_step (by with_reducible assumption) ?hsz ?_; case hsz => ((try simp) <;> (try omega)))))⟩
          · have k9' : (k == 9) = false := by simp [k9]
            have k4 : inB k 3 8 = true := inB_true.2 (by omega)
            rcases Bool.eq_false_or_eq_true (inB a 0 ((t : Int) - 1)) with ia | ia <;> rcases Bool.eq_false_or_eq_true (inB b 0 ((t : Int) - 1)) with ib | ib
            all_goals
              go_enter Try.func127, Try.ntmps127
              go_wp2_with (first | (go_at_call 59; (with_reducible refine (within_any k 3 9 _).mono ?_); rintro e w' ⟨rfl, rfl⟩) | (go_at_call 59; (with_reducible refine (within_any 9 3 9 _).mono ?_); rintro e w' ⟨rfl, rfl⟩) | (go_at_call 59; (with_reducible refine (within_any a 0 ((t : Int) - 1) _).mono ?_); rintro e w' ⟨rfl, rfl⟩) | (go_at_call 59; (with_reducible refine (within_any b 0 ((t : Int) - 1) _).mono ?_); rintro e w' ⟨rfl, rfl⟩) | (go_at_call 59; (with_reducible refine (within_any c 0 ((t : Int) - 1) _).mono ?_); rintro e w' ⟨rfl, rfl⟩) | (go_at_call 59; (with_reducible refine (within_any 0 0 ((t : Int) - 1) _).mono ?_); rintro e w' ⟨rfl, rfl⟩))
              go_big_region
              go_wp2_with (first | (go_at_call 59; (with_reducible refine (within_any k 3 9 _).mono ?_); rintro e w' ⟨rfl, rfl⟩) | (go_at_call 59; (with_reducible refine (within_any 9 3 9 _).mono ?_); rintro e w' ⟨rfl, rfl⟩) | (go_at_call 59; (with_reducible refine (within_any a 0 ((t : Int) - 1) _).mono ?_); rintro e w' ⟨rfl, rfl⟩) | (go_at_call 59; (with_reducible refine (within_any b 0 ((t : Int) - 1) _).mono ?_); rintro e w' ⟨rfl, rfl⟩) | (go_at_call 59; (with_reducible refine (within_any c 0 ((t : Int) - 1) _).mono ?_); rintro e w' ⟨rfl, rfl⟩) | (go_at_call 59; (with_reducible refine (within_any 0 0 ((t : Int) - 1) _).mono ?_); rintro e w' ⟨rfl, rfl⟩))
              all_goals go_ret
              all_goals exact ⟨ret_bool (by simp [nodeB, *]), by (repeat (first | with_reducible exact Below.refl _ _ | with_reducible refine Below.drew ?_ | (with_reducible refine Below.alloc ?_ ?hsz _; case hsz => ((try simp) <;> (try omega))) | (with_reducible refine Below.setCell ?_ ?hsz _; case hsz => ((try simp) <;> (try omega))) | (with_reducible refine below_step (by with_reducible assumption) ?hsz ?_; case hsz => ((try simp) <;> (try omega)))))⟩
        · have t2 := of_decide_eq_false t1
          have ia : inB a 0 ((t : Int) - 1) = false := by rw [Bool.eq_false_iff]; intro h; have := inB_true.1 h; omega
          by_cases k9 : k = 9
          · subst k9
            have k4 : inB 9 3 8 = false := by decide
            go_enter Try.func127, Try.ntmps127
            go_wp2_with (first | (go_at_call 59; (with_reducible refine (within_any k 3 9 _).mono ?_); rintro e w' ⟨rfl, rfl⟩) | (go_at_call 59; (with_reducible refine (within_any 9 3 9 _).mono ?_); rintro e w' ⟨rfl, rfl⟩) | (go_at_call 59; (with_reducible refine (within_any a 0 ((t : Int) - 1) _).mono ?_); rintro e w' ⟨rfl, rfl⟩) | (go_at_call 59; (with_reducible refine (within_any b 0 ((t : Int) - 1) _).mono ?_); rintro e w' ⟨rfl, rfl⟩) | (go_at_call 59; (with_reducible refine (within_any c 0 ((t : Int) - 1) _).mono ?_); rintro e w' ⟨rfl, rfl⟩) | (go_at_call 59; (with_reducible refine (within_any 0 0 ((t : Int) - 1) _).mono ?_); rintro e w' ⟨rfl, rfl⟩))
            go_big_region
            go_wp2_with (first | (go_at_call 59; (with_reducible refine (within_any k 3 9 _).mono ?_); rintro e w' ⟨rfl, rfl⟩) | (go_at_call 59; (with_reducible refine (within_any 9 3 9 _).mono ?_); rintro e w' ⟨rfl, rfl⟩) | (go_at_call 59; (with_reducible refine (within_any a 0 ((t : Int) - 1) _).mono ?_); rintro e w' ⟨rfl, rfl⟩) | (go_at_call 59; (with_reducible refine (within_any b 0 ((t : Int) - 1) _).mono ?_); rintro e w' ⟨rfl, rfl⟩) | (go_at_call 59; (with_reducible refine (within_any c 0 ((t : Int) - 1) _).mono ?_); rintro e w' ⟨rfl, rfl⟩) | (go_at_call 59; (with_reducible refine (within_any 0 0 ((t : Int) - 1) _).mono ?_); rintro e w' ⟨rfl, rfl⟩))
            all_goals go_ret
            all_goals exact ⟨ret_bool (by simp [nodeB, *]), by (repeat (first | with_reducible exact Below.refl _ _ | with_reducible refine Below.drew ?_ | (with_reducible refine Below.alloc ?_ ?hsz _; case hsz => ((try simp) <;> (try omega))) | (with_reducible refine Below.setCell ?_ ?hsz _; case hsz => ((try simp) <;> (try omega))) | (with_reducible refine below_step (by with_reducible assumption) ?hsz ?_; case hsz => ((try simp) <;> (try omega)))))⟩
          · have k9' : (k == 9) = false := by simp [k9]
            have k4 : inB k 3 8 = true := inB_true.2 (by omega)
            go_enter Try.func127, Try.ntmps127
            go_wp2_with (first | (go_at_call 59; (with_reducible refine (within_any k 3 9 _).mono ?_); rintro e w' ⟨rfl, rfl⟩) | (go_at_call 59; (with_reducible refine (within_any 9 3 9 _).mono ?_); rintro e w' ⟨rfl, rfl⟩) | (go_at_call 59; (with_reducible refine (within_any a 0 ((t : Int) - 1) _).mono ?_); rintro e w' ⟨rfl, rfl⟩) | (go_at_call 59; (with_reducible refine (within_any b 0 ((t : Int) - 1) _).mono ?_); rintro e w' ⟨rfl, rfl⟩) | (go_at_call 59; (with_reducible refine (within_any c 0 ((t : Int) - 1) _).mono ?_); rintro e w' ⟨rfl, rfl⟩) | (go_at_call 59; (with_reducible refine (within_any 0 0 ((t : Int) - 1) _).mono ?_); rintro e w' ⟨rfl, rfl⟩))
            go_big_region
            go_wp2_with (first | (go_at_call 59; (with_reducible refine (within_any k 3 9 _).mono ?_); rintro e w' ⟨rfl, rfl⟩) | (go_at_call 59; (with_reducible refine (within_any 9 3 9 _).mono ?_); rintro e w' ⟨rfl, rfl⟩) | (go_at_call 59; (with_reducible refine (within_any a 0 ((t : Int) - 1) _).mono ?_); rintro e w' ⟨rfl, rfl⟩) | (go_at_call 59; (with_reducible refine (within_any b 0 ((t : Int) - 1) _).mono ?_); rintro e w' ⟨rfl, rfl⟩) | (go_at_call 59; (with_reducible refine (within_any c 0 ((t : Int) - 1) _).mono ?_); rintro e w' ⟨rfl, rfl⟩) | (go_at_call 59; (with_reducible refine (within_any 0 0 ((t : Int) - 1) _).mono ?_); rintro e w' ⟨rfl, rfl⟩))
            all_goals go_ret
            all_goals exact ⟨ret_bool (by simp [nodeB, *]), by (repeat (first | with_reducible exact Below.refl _ _ | with_reducible refine Below.drew ?_ | (with_reducible refine Below.alloc ?_ ?hsz _; case hsz => ((try simp) <;> (try omega))) | (with_reducible refine Below.setCell ?_ ?hsz _; case hsz => ((try simp) <;> (try omega))) | (with_reducible refine below_step (by with_reducible assumption) ?hsz ?_; case hsz => ((try simp) <;> (try omega)))))⟩
      · have k9 : ¬ k = 9 := fun h => by rw [h] at k3; cases k3
        have k4 : inB k 3 8 = false := by
          rw [Bool.eq_false_iff]
          intro h
          rw [inB_true.2 (show 3 ≤ k ∧ k ≤ 9 by have := inB_true.1 h; omega)] at k3
          cases k3
        go_enter Try.func127, Try.ntmps127
        go_wp2_with (go_at_call 59; (with_reducible refine (within_any k 3 9 _).mono ?_); rintro e w' ⟨rfl, rfl⟩)
        all_goals go_ret
        all_goals exact ⟨ret_bool (by simp [nodeB, *]), by (repeat (first | with_reducible exact Below.refl _ _ | with_reducible refine Below.drew ?_ | (with_reducible refine Below.alloc ?_ ?hsz _; case hsz => ((try simp) <;> (try omega))) | (with_reducible refine Below.setCell ?_ ?hsz _; case hsz => ((try simp) <;> (try omega))) | (with_reducible refine below_step (by with_reducible assumption) ?hsz ?_; case hsz => ((try simp) <;> (try omega)))))⟩
end Go.Proofs.Ytgfcmeiffhffaaa
namespace Go.Proofs.Ytgfcmeiffhffaaa
open Go.RowKit

theorem l08At_any (x : Int) (t : Nat) (w : World) : Calls Try.prog 138 #[.int .i64 x, .int .i64 t] w fun e w' => e = .returned (.bool (inB x 0 ((t : Int) - 1))) ∧ w = w' := by
  rcases Bool.eq_false_or_eq_true (decide (0 ≤ x)) with h | h
  · have h1 := of_decide_eq_true h
    have HE := Lib.hid (show inB x 0 ((t : Int) - 1) = decide (x < t) by rw [Bool.eq_iff_iff, inB_true]; simp; omega)
    go_enter Try.func138, Try.ntmps138
    go_wp2
    go_ret
    exact ⟨ret_bool HE.out.symm, rfl⟩
  · have h1 := of_decide_eq_false h
    have HE := Lib.hid (show inB x 0 ((t : Int) - 1) = false by rw [Bool.eq_false_iff, ne_eq, inB_true]; omega)
    go_enter Try.func138, Try.ntmps138
    go_wp2
    go_ret
    exact ⟨ret_bool HE.out.symm, rfl⟩
theorem l08Two_any (x : Int) (w : World) : Calls Try.prog 137 #[.int .i64 x] w fun e w' => e = .returned (.bool (inB x 3 8)) ∧ w = w' := by
  go_enter Try.func137, Try.ntmps137
  go_wp2_with (go_at_call 55; (with_reducible refine (l01In_any x 3 8 _).mono ?_); rintro e w' ⟨rfl, rfl⟩)
  go_ret
  exact ⟨rfl, rfl⟩
set_option maxHeartbeats 8000000 in
theorem snodeOk_any (k a b c p q : Int) (t : Nat) (w : World) : Calls Try.prog 125 #[.agg #[.int .i64 k, .int .i64 a, .int .i64 b, .int .i64 c, .int .i64 p, .int .i64 q], .int .i64 t] w fun e w' => e = .returned (.bool (nodeB k a b c p q t)) ∧ Below w.heap.size w w' := by
  by_cases k1 : k = 1
  · subst k1
    rcases Bool.eq_false_or_eq_true (a == 0) with a0 | a0 <;> rcases Bool.eq_false_or_eq_true (b == 0) with b0 | b0 <;> rcases Bool.eq_false_or_eq_true (c == 0) with c0 | c0
    all_goals
      have HE := Lib.hid (show nodeB 1 a b c p q t = ((a == 0) && ((b == 0) && ((c == 0) && fracI p q))) by rfl)
      rw [a0, b0, c0] at HE
      go_enter Try.func125, Try.ntmps125
      go_wp2_with (go_at_call 136; (with_reducible refine (sfracOkI_any p q _).mono ?_); rintro e w1 ⟨rfl, hb1⟩; obtain ⟨hc1, hf1⟩ := bcell hb1; (try simp only [World.size_drew] at hc1 hf1); have hz1 := hb1.size; (try simp at hz1); (try have q1_0 : w.heap.size < w1.heap.size := by omega); (try have q1_1 : w.heap.size + 1 < w1.heap.size := by omega); (try have q1_2 : w.heap.size + 2 < w1.heap.size := by omega); (try have q1_3 : w.heap.size + 3 < w1.heap.size := by omega); (try have q1_4 : w.heap.size + 4 < w1.heap.size := by omega); (try have q1_0_0 : w0.heap.size < w1.heap.size := by omega); (try have q1_0_1 : w0.heap.size + 1 < w1.heap.size := by omega); (try have q1_2_0 : w2.heap.size < w1.heap.size := by omega); (try have q1_2_1 : w2.heap.size + 1 < w1.heap.size := by omega); (try have q1_3_0 : w3.heap.size < w1.heap.size := by omega); (try have q1_3_1 : w3.heap.size + 1 < w1.heap.size := by omega); (try have q1_4_0 : w4.heap.size < w1.heap.size := by omega); (try have q1_4_1 : w4.heap.size + 1 < w1.heap.size := by omega); (try have q1_5_0 : w5.heap.size < w1.heap.size := by omega); (try have q1_5_1 : w5.heap.size + 1 < w1.heap.size := by omega); (try have q1_6_0 : w6.heap.size < w1.heap.size := by omega); (try have q1_6_1 : w6.heap.size + 1 < w1.heap.size := by omega); (try have u1_b : b < w1.heap.size := by omega); (try have u1_q : q < w1.heap.size := by omega); (try have u1_g : g < w1.heap.size := by omega); (try have u1_g1 : g1 < w1.heap.size := by omega); (try have u1_g2 : g2 < w1.heap.size := by omega); (try have u1_g3 : g3 < w1.heap.size := by omega); (try have u1_g4 : g4 < w1.heap.size := by omega); (try have u1_g5 : g5 < w1.heap.size := by omega))
      go_ret
      exact ⟨ret_bool (by rw [HE.out]; first | rfl | simp), by (repeat (first | with_reducible exact Below.refl _ _ | with_reducible refine Below.drew ?_ | (with_reducible refine Below.alloc ?_ ?hsz _; case hsz => ((try simp) <;> (try omega))) | (with_reducible refine Below.setCell ?_ ?hsz _; case hsz => ((try simp) <;> (try omega))) | (with_reducible refine below_step (by with_reducible assumption) ?hsz ?_; case hsz => ((try simp) <;> (try omega)))))⟩
  · have k1' : (k == 1) = false := by simp [k1]
    by_cases hz : p = 0 ∧ q = 0
    · obtain ⟨rfl, rfl⟩ := hz
      by_cases k2 : k = 2
      · subst k2
        rcases Bool.eq_false_or_eq_true (inB a 0 7) with a0 | a0 <;> rcases Bool.eq_false_or_eq_true (b == 0) with b0 | b0
        all_goals
          have HE := Lib.hid (show nodeB 2 a b c 0 0 t = (inB a 0 7 && ((b == 0) && (c == 0))) by rfl)
          rw [a0, b0] at HE
          go_enter Try.func125, Try.ntmps125
          go_wp2_with (first | (go_at_call 55; (with_reducible refine (l01In_any a 0 7 _).mono ?_); rintro e w' ⟨rfl, rfl⟩) | (go_at_call 137; (with_reducible refine (l08Two_any k _).mono ?_); rintro e w' ⟨rfl, rfl⟩) | (go_at_call 138; (with_reducible refine (l08At_any a t _).mono ?_); rintro e w' ⟨rfl, rfl⟩) | (go_at_call 138; (with_reducible refine (l08At_any b t _).mono ?_); rintro e w' ⟨rfl, rfl⟩) | (go_at_call 138; (with_reducible refine (l08At_any c t _).mono ?_); rintro e w' ⟨rfl, rfl⟩))
          go_ret
          exact ⟨ret_bool (by rw [HE.out]; first | rfl | simp), by (repeat (first | with_reducible exact Below.refl _ _ | with_reducible refine Below.drew ?_ | (with_reducible refine Below.alloc ?_ ?hsz _; case hsz => ((try simp) <;> (try omega))) | (with_reducible refine Below.setCell ?_ ?hsz _; case hsz => ((try simp) <;> (try omega))) | (with_reducible refine below_step (by with_reducible assumption) ?hsz ?_; case hsz => ((try simp) <;> (try omega)))))⟩
      · have k2' : (k == 2) = false := by simp [k2]
        rcases Bool.eq_false_or_eq_true (inB k 3 8) with k3 | k3
        · rcases Bool.eq_false_or_eq_true (inB a 0 ((t : Int) - 1)) with a0 | a0 <;> rcases Bool.eq_false_or_eq_true (inB b 0 ((t : Int) - 1)) with b0 | b0
          all_goals
            have HE := Lib.hid (show nodeB k a b c 0 0 t = (inB a 0 ((t : Int) - 1) && (inB b 0 ((t : Int) - 1) && (c == 0))) by simp only [nodeB, if_neg k1, if_neg k2, if_pos k3]; simp; rfl)
            rw [a0, b0] at HE
            go_enter Try.func125, Try.ntmps125
            go_wp2_with (first | (go_at_call 55; (with_reducible refine (l01In_any a 0 7 _).mono ?_); rintro e w' ⟨rfl, rfl⟩) | (go_at_call 137; (with_reducible refine (l08Two_any k _).mono ?_); rintro e w' ⟨rfl, rfl⟩) | (go_at_call 138; (with_reducible refine (l08At_any a t _).mono ?_); rintro e w' ⟨rfl, rfl⟩) | (go_at_call 138; (with_reducible refine (l08At_any b t _).mono ?_); rintro e w' ⟨rfl, rfl⟩) | (go_at_call 138; (with_reducible refine (l08At_any c t _).mono ?_); rintro e w' ⟨rfl, rfl⟩))
            go_ret
            exact ⟨ret_bool (by rw [HE.out]; first | rfl | simp), by (repeat (first | with_reducible exact Below.refl _ _ | with_reducible refine Below.drew ?_ | (with_reducible refine Below.alloc ?_ ?hsz _; case hsz => ((try simp) <;> (try omega))) | (with_reducible refine Below.setCell ?_ ?hsz _; case hsz => ((try simp) <;> (try omega))) | (with_reducible refine below_step (by with_reducible assumption) ?hsz ?_; case hsz => ((try simp) <;> (try omega)))))⟩
        · have k3' : ¬ inB k 3 8 = true := by rw [k3]; decide
          rcases Bool.eq_false_or_eq_true (k == 9) with k9 | k9
          · rcases Bool.eq_false_or_eq_true (inB a 0 ((t : Int) - 1)) with a0 | a0 <;> rcases Bool.eq_false_or_eq_true (inB b 0 ((t : Int) - 1)) with b0 | b0
            all_goals
              have HE := Lib.hid (show nodeB k a b c 0 0 t = ((k == 9) && (inB a 0 ((t : Int) - 1) && (inB b 0 ((t : Int) - 1) && inB c 0 ((t : Int) - 1)))) by simp only [nodeB, if_neg k1, if_neg k2, if_neg k3']; simp; rfl)
              rw [k9, a0, b0] at HE
              go_enter Try.func125, Try.ntmps125
              go_wp2_with (first | (go_at_call 55; (with_reducible refine (l01In_any a 0 7 _).mono ?_); rintro e w' ⟨rfl, rfl⟩) | (go_at_call 137; (with_reducible refine (l08Two_any k _).mono ?_); rintro e w' ⟨rfl, rfl⟩) | (go_at_call 138; (with_reducible refine (l08At_any a t _).mono ?_); rintro e w' ⟨rfl, rfl⟩) | (go_at_call 138; (with_reducible refine (l08At_any b t _).mono ?_); rintro e w' ⟨rfl, rfl⟩) | (go_at_call 138; (with_reducible refine (l08At_any c t _).mono ?_); rintro e w' ⟨rfl, rfl⟩))
              go_ret
              exact ⟨ret_bool (by rw [HE.out]; first | rfl | simp), by (repeat (first | with_reducible exact Below.refl _ _ | with_reducible refine Below.drew ?_ | (with_reducible refine Below.alloc ?_ ?hsz _; case hsz => ((try simp) <;> (try omega))) | (with_reducible refine Below.setCell ?_ ?hsz _; case hsz => ((try simp) <;> (try omega))) | (with_reducible refine below_step (by with_reducible assumption) ?hsz ?_; case hsz => ((try simp) <;> (try omega)))))⟩
          · have HE := Lib.hid (show nodeB k a b c 0 0 t = ((k == 9) && (inB a 0 ((t : Int) - 1) && (inB b 0 ((t : Int) - 1) && inB c 0 ((t : Int) - 1)))) by simp only [nodeB, if_neg k1, if_neg k2, if_neg k3']; simp; rfl)
            rw [k9] at HE
            go_enter Try.func125, Try.ntmps125
            go_wp2_with (first | (go_at_call 55; (with_reducible refine (l01In_any a 0 7 _).mono ?_); rintro e w' ⟨rfl, rfl⟩) | (go_at_call 137; (with_reducible refine (l08Two_any k _).mono ?_); rintro e w' ⟨rfl, rfl⟩) | (go_at_call 138; (with_reducible refine (l08At_any a t _).mono ?_); rintro e w' ⟨rfl, rfl⟩) | (go_at_call 138; (with_reducible refine (l08At_any b t _).mono ?_); rintro e w' ⟨rfl, rfl⟩) | (go_at_call 138; (with_reducible refine (l08At_any c t _).mono ?_); rintro e w' ⟨rfl, rfl⟩))
            go_ret
            exact ⟨ret_bool (by rw [HE.out]; first | rfl | simp), by (repeat (first | with_reducible exact Below.refl _ _ | with_reducible refine Below.drew ?_ | (with_reducible refine Below.alloc ?_ ?hsz _; case hsz => ((try simp) <;> (try omega))) | (with_reducible refine Below.setCell ?_ ?hsz _; case hsz => ((try simp) <;> (try omega))) | (with_reducible refine below_step (by with_reducible assumption) ?hsz ?_; case hsz => ((try simp) <;> (try omega)))))⟩
    · have HE := Lib.hid (show nodeB k a b c p q t = false by
        simp only [nodeB, if_neg k1]
        by_cases hp : p = 0
        · have : ¬ q = 0 := fun hq => hz ⟨hp, hq⟩
          simp [this]
        · simp [hp])
      go_enter Try.func125, Try.ntmps125
      go_wp2_with (first | (go_at_call 55; (with_reducible refine (l01In_any a 0 7 _).mono ?_); rintro e w' ⟨rfl, rfl⟩) | (go_at_call 137; (with_reducible refine (l08Two_any k _).mono ?_); rintro e w' ⟨rfl, rfl⟩) | (go_at_call 138; (with_reducible refine (l08At_any a t _).mono ?_); rintro e w' ⟨rfl, rfl⟩) | (go_at_call 138; (with_reducible refine (l08At_any b t _).mono ?_); rintro e w' ⟨rfl, rfl⟩) | (go_at_call 138; (with_reducible refine (l08At_any c t _).mono ?_); rintro e w' ⟨rfl, rfl⟩))
      all_goals go_ret
      all_goals exact ⟨ret_bool (by rw [HE.out]), by (repeat (first | with_reducible exact Below.refl _ _ | with_reducible refine Below.drew ?_ | (with_reducible refine Below.alloc ?_ ?hsz _; case hsz => ((try simp) <;> (try omega))) | (with_reducible refine Below.setCell ?_ ?hsz _; case hsz => ((try simp) <;> (try omega))) | (with_reducible refine below_step (by with_reducible assumption) ?hsz ?_; case hsz => ((try simp) <;> (try omega)))))⟩
end Go.Proofs.Ytgfcmeiffhffaaa
namespace Go.Proofs.Ytgfcmeiffhffaaa
open Go.RowKit

def nodeAt (F : Nat → Nat → Int) (i : Nat) : Bool := nodeB (F i 0) (F i 1) (F i 2) (F i 3) (F i 4) (F i 5) i
def formB (F : Nat → Nat → Int) (n : Nat) : Bool := allB (nodeAt F) n && inB n 1 30
theorem formB_bad {F : Nat → Nat → Int} {n m : Nat} (hm : m < n) (h : nodeAt F m = false) : formB F n = false := by simp [formB, allB_false hm h]
theorem allT_snoc {p : Nat → Bool} {m : Nat} (h : ∀ i, i < m → p i = true) (hp : p m = true) : ∀ i, i < m + 1 → p i = true := fun i hi => by
  rcases Nat.lt_or_ge i m with h1 | h1
  · exact h i h1
  · obtain rfl : i = m := by omega
    exact hp
set_option maxHeartbeats 2000000 in
theorem formOk_any (A : Option Addr) (n cap : Nat) (F : Nat → Nat → Int) (w : World) (hn : n ≤ 1048576) (hr : Recs w 6 A n F) :
    Calls Try.prog 103 #[.slice A n cap] w fun e w' => e = .returned (.bool (formB F n)) ∧ Below w.heap.size w w' := by
  have HR := Lib.hid hr
  clear hr
  go_enter Try.func103, Try.ntmps103
  go_wp2_with fail
  go_loopw [7] (fun i wr => ∃ m : Nat, m ≤ n ∧ i = .int .i64 m ∧ Below w.heap.size w wr ∧ Hid (∀ i, i < m → nodeAt F i = true)) (fun i _ => n - (intOf i).toNat)
  case atStart => exact ⟨0, Nat.zero_le _, rfl, Below.refl _ _, fun i hi => by omega⟩
  case round =>
    obtain ⟨m, hm, rfl, hbw, hF⟩ := hrel
    by_cases hlt : m < n
    · obtain ⟨b, off, rfl, hb, c0, c1, c2, c3, c4, c5⟩ := HR.out.at6 hlt
      have d0 := (hbw.cell (p := ⟨b, off + m * 6, none⟩) hb).trans c0
      have d1 := (hbw.cell (p := ⟨b, off + m * 6 + 1, none⟩) hb).trans c1
      have d2 := (hbw.cell (p := ⟨b, off + m * 6 + 2, none⟩) hb).trans c2
      have d3 := (hbw.cell (p := ⟨b, off + m * 6 + 3, none⟩) hb).trans c3
      have d4 := (hbw.cell (p := ⟨b, off + m * 6 + 4, none⟩) hb).trans c4
      have d5 := (hbw.cell (p := ⟨b, off + m * 6 + 5, none⟩) hb).trans c5
      have hmi : (m : Int) < (n : Int) := by omega
      have hm0 : (0 : Int) ≤ (m : Int) := by omega
      have HB := Lib.hid hbw
      have zb := hbw.size
      clear c0 c1 c2 c3 c4 c5 hb hbw
      rcases Bool.eq_false_or_eq_true (nodeAt F m) with k1 | k1
      · have k2 : nodeB (F m 0) (F m 1) (F m 2) (F m 3) (F m 4) (F m 5) m = true := k1
        have K := Lib.hid k1
        clear k1
        go_wp2_with (go_at_call 127; (with_reducible refine (nodeOk_any (F m 0) (F m 1) (F m 2) (F m 3) (F m 4) (F m 5) m (by omega) _).mono ?_); rintro e w1 ⟨rfl, hb1⟩; obtain ⟨hc1, hf1⟩ := bcell hb1; (try simp only [World.size_drew] at hc1 hf1); have hz1 := hb1.size; (try simp at hz1); (try have q1_0 : w.heap.size < w1.heap.size := by omega); (try have q1_1 : w.heap.size + 1 < w1.heap.size := by omega); (try have q1_2 : w.heap.size + 2 < w1.heap.size := by omega); (try have q1_3 : w.heap.size + 3 < w1.heap.size := by omega); (try have q1_4 : w.heap.size + 4 < w1.heap.size := by omega); (try have q1_0_0 : w0.heap.size < w1.heap.size := by omega); (try have q1_0_1 : w0.heap.size + 1 < w1.heap.size := by omega); (try have q1_2_0 : w2.heap.size < w1.heap.size := by omega); (try have q1_2_1 : w2.heap.size + 1 < w1.heap.size := by omega); (try have q1_3_0 : w3.heap.size < w1.heap.size := by omega); (try have q1_3_1 : w3.heap.size + 1 < w1.heap.size := by omega); (try have q1_4_0 : w4.heap.size < w1.heap.size := by omega); (try have q1_4_1 : w4.heap.size + 1 < w1.heap.size := by omega); (try have q1_5_0 : w5.heap.size < w1.heap.size := by omega); (try have q1_5_1 : w5.heap.size + 1 < w1.heap.size := by omega); (try have q1_6_0 : w6.heap.size < w1.heap.size := by omega); (try have q1_6_1 : w6.heap.size + 1 < w1.heap.size := by omega); (try have u1_b : b < w1.heap.size := by omega); (try have u1_q : q < w1.heap.size := by omega); (try have u1_g : g < w1.heap.size := by omega); (try have u1_g1 : g1 < w1.heap.size := by omega); (try have u1_g2 : g2 < w1.heap.size := by omega); (try have u1_g3 : g3 < w1.heap.size := by omega); (try have u1_g4 : g4 < w1.heap.size := by omega); (try have u1_g5 : g5 < w1.heap.size := by omega))
        go_roundw
        case rel => exact ⟨m + 1, by omega, by go_num, (by have hbw := HB.out; (repeat (first | with_reducible exact Below.refl _ _ | with_reducible refine Below.drew ?_ | (with_reducible refine Below.alloc ?_ ?hsz _; case hsz => ((try simp) <;> (try omega))) | (with_reducible refine Below.setCell ?_ ?hsz _; case hsz => ((try simp) <;> (try omega))) | (with_reducible refine below_step (by with_reducible assumption) ?hsz ?_; case hsz => ((try simp) <;> (try omega)))))), allT_snoc hF.out K.out⟩
        case measure => simp [intOf]; omega
      · have k2 : nodeB (F m 0) (F m 1) (F m 2) (F m 3) (F m 4) (F m 5) m = false := k1
        have K := Lib.hid k1
        clear k1
        go_wp2_with (go_at_call 127; (with_reducible refine (nodeOk_any (F m 0) (F m 1) (F m 2) (F m 3) (F m 4) (F m 5) m (by omega) _).mono ?_); rintro e w1 ⟨rfl, hb1⟩; obtain ⟨hc1, hf1⟩ := bcell hb1; (try simp only [World.size_drew] at hc1 hf1); have hz1 := hb1.size; (try simp at hz1); (try have q1_0 : w.heap.size < w1.heap.size := by omega); (try have q1_1 : w.heap.size + 1 < w1.heap.size := by omega); (try have q1_2 : w.heap.size + 2 < w1.heap.size := by omega); (try have q1_3 : w.heap.size + 3 < w1.heap.size := by omega); (try have q1_4 : w.heap.size + 4 < w1.heap.size := by omega); (try have q1_0_0 : w0.heap.size < w1.heap.size := by omega); (try have q1_0_1 : w0.heap.size + 1 < w1.heap.size := by omega); (try have q1_2_0 : w2.heap.size < w1.heap.size := by omega); (try have q1_2_1 : w2.heap.size + 1 < w1.heap.size := by omega); (try have q1_3_0 : w3.heap.size < w1.heap.size := by omega); (try have q1_3_1 : w3.heap.size + 1 < w1.heap.size := by omega); (try have q1_4_0 : w4.heap.size < w1.heap.size := by omega); (try have q1_4_1 : w4.heap.size + 1 < w1.heap.size := by omega); (try have q1_5_0 : w5.heap.size < w1.heap.size := by omega); (try have q1_5_1 : w5.heap.size + 1 < w1.heap.size := by omega); (try have q1_6_0 : w6.heap.size < w1.heap.size := by omega); (try have q1_6_1 : w6.heap.size + 1 < w1.heap.size := by omega); (try have u1_b : b < w1.heap.size := by omega); (try have u1_q : q < w1.heap.size := by omega); (try have u1_g : g < w1.heap.size := by omega); (try have u1_g1 : g1 < w1.heap.size := by omega); (try have u1_g2 : g2 < w1.heap.size := by omega); (try have u1_g3 : g3 < w1.heap.size := by omega); (try have u1_g4 : g4 < w1.heap.size := by omega); (try have u1_g5 : g5 < w1.heap.size := by omega))
        go_ret
        exact ⟨ret_bool (formB_bad hlt K.out).symm, (by have hbw := HB.out; (repeat (first | with_reducible exact Below.refl _ _ | with_reducible refine Below.drew ?_ | (with_reducible refine Below.alloc ?_ ?hsz _; case hsz => ((try simp) <;> (try omega))) | (with_reducible refine Below.setCell ?_ ?hsz _; case hsz => ((try simp) <;> (try omega))) | (with_reducible refine below_step (by with_reducible assumption) ?hsz ?_; case hsz => ((try simp) <;> (try omega))))))⟩
    · obtain rfl : m = n := by omega
      have HE := Lib.hid (show formB F m = inB m 1 30 by simp only [formB, allB_iff.2 hF.out, Bool.true_and])
      go_wp2_with (go_at_call 59; (with_reducible refine (within_any m 1 30 _).mono ?_); rintro e w' ⟨rfl, rfl⟩)
      go_ret
      exact ⟨ret_bool HE.out.symm, hbw⟩
set_option maxHeartbeats 2000000 in
theorem sformOk_any (A : Option Addr) (n cap : Nat) (F : Nat → Nat → Int) (w : World) (hn : n ≤ 1048576) (hr : Recs w 6 A n F) :
    Calls Try.prog 98 #[.slice A n cap] w fun e w' => e = .returned (.bool (formB F n)) ∧ Below w.heap.size w w' := by
  have HR := Lib.hid hr
  clear hr
  go_enter Try.func98, Try.ntmps98
  go_wp2_with fail
  go_loopw [3] (fun i wr => ∃ m : Nat, m ≤ n ∧ i = .int .i64 m ∧ Below w.heap.size w wr ∧ Hid (∀ i, i < m → nodeAt F i = true)) (fun i _ => n - (intOf i).toNat)
  case atStart => exact ⟨0, Nat.zero_le _, rfl, Below.refl _ _, fun i hi => by omega⟩
  case round =>
    obtain ⟨m, hm, rfl, hbw, hF⟩ := hrel
    by_cases hlt : m < n
    · obtain ⟨b, off, rfl, hb, c0, c1, c2, c3, c4, c5⟩ := HR.out.at6 hlt
      have d0 := (hbw.cell (p := ⟨b, off + m * 6, none⟩) hb).trans c0
      have d1 := (hbw.cell (p := ⟨b, off + m * 6 + 1, none⟩) hb).trans c1
      have d2 := (hbw.cell (p := ⟨b, off + m * 6 + 2, none⟩) hb).trans c2
      have d3 := (hbw.cell (p := ⟨b, off + m * 6 + 3, none⟩) hb).trans c3
      have d4 := (hbw.cell (p := ⟨b, off + m * 6 + 4, none⟩) hb).trans c4
      have d5 := (hbw.cell (p := ⟨b, off + m * 6 + 5, none⟩) hb).trans c5
      have hmi : (m : Int) < (n : Int) := by omega
      have hm0 : (0 : Int) ≤ (m : Int) := by omega
      have HB := Lib.hid hbw
      have zb := hbw.size
      clear c0 c1 c2 c3 c4 c5 hb hbw
      rcases Bool.eq_false_or_eq_true (nodeAt F m) with k1 | k1
      · have k2 : nodeB (F m 0) (F m 1) (F m 2) (F m 3) (F m 4) (F m 5) m = true := k1
        have K := Lib.hid k1
        clear k1
        go_wp2_with (go_at_call 125; (with_reducible refine (snodeOk_any (F m 0) (F m 1) (F m 2) (F m 3) (F m 4) (F m 5) m _).mono ?_); rintro e w1 ⟨rfl, hb1⟩; obtain ⟨hc1, hf1⟩ := bcell hb1; (try simp only [World.size_drew] at hc1 hf1); have hz1 := hb1.size; (try simp at hz1); (try have q1_0 : w.heap.size < w1.heap.size := by omega); (try have q1_1 : w.heap.size + 1 < w1.heap.size := by omega); (try have q1_2 : w.heap.size + 2 < w1.heap.size := by omega); (try have q1_3 : w.heap.size + 3 < w1.heap.size := by omega); (try have q1_4 : w.heap.size + 4 < w1.heap.size := by omega); (try have q1_0_0 : w0.heap.size < w1.heap.size := by omega); (try have q1_0_1 : w0.heap.size + 1 < w1.heap.size := by omega); (try have q1_2_0 : w2.heap.size < w1.heap.size := by omega); (try have q1_2_1 : w2.heap.size + 1 < w1.heap.size := by omega); (try have q1_3_0 : w3.heap.size < w1.heap.size := by omega); (try have q1_3_1 : w3.heap.size + 1 < w1.heap.size := by omega); (try have q1_4_0 : w4.heap.size < w1.heap.size := by omega); (try have q1_4_1 : w4.heap.size + 1 < w1.heap.size := by omega); (try have q1_5_0 : w5.heap.size < w1.heap.size := by omega); (try have q1_5_1 : w5.heap.size + 1 < w1.heap.size := by omega); (try have q1_6_0 : w6.heap.size < w1.heap.size := by omega); (try have q1_6_1 : w6.heap.size + 1 < w1.heap.size := by omega); (try have u1_b : b < w1.heap.size := by omega); (try have u1_q : q < w1.heap.size := by omega); (try have u1_g : g < w1.heap.size := by omega); (try have u1_g1 : g1 < w1.heap.size := by omega); (try have u1_g2 : g2 < w1.heap.size := by omega); (try have u1_g3 : g3 < w1.heap.size := by omega); (try have u1_g4 : g4 < w1.heap.size := by omega); (try have u1_g5 : g5 < w1.heap.size := by omega))
        go_roundw
        case rel => exact ⟨m + 1, by omega, by go_num, (by have hbw := HB.out; (repeat (first | with_reducible exact Below.refl _ _ | with_reducible refine Below.drew ?_ | (with_reducible refine Below.alloc ?_ ?hsz _; case hsz => ((try simp) <;> (try omega))) | (with_reducible refine Below.setCell ?_ ?hsz _; case hsz => ((try simp) <;> (try omega))) | (with_reducible refine below_step (by with_reducible assumption) ?hsz ?_; case hsz => ((try simp) <;> (try omega)))))), allT_snoc hF.out K.out⟩
        case measure => simp [intOf]; omega
      · have k2 : nodeB (F m 0) (F m 1) (F m 2) (F m 3) (F m 4) (F m 5) m = false := k1
        have K := Lib.hid k1
        clear k1
        go_wp2_with (go_at_call 125; (with_reducible refine (snodeOk_any (F m 0) (F m 1) (F m 2) (F m 3) (F m 4) (F m 5) m _).mono ?_); rintro e w1 ⟨rfl, hb1⟩; obtain ⟨hc1, hf1⟩ := bcell hb1; (try simp only [World.size_drew] at hc1 hf1); have hz1 := hb1.size; (try simp at hz1); (try have q1_0 : w.heap.size < w1.heap.size := by omega); (try have q1_1 : w.heap.size + 1 < w1.heap.size := by omega); (try have q1_2 : w.heap.size + 2 < w1.heap.size := by omega); (try have q1_3 : w.heap.size + 3 < w1.heap.size := by omega); (try have q1_4 : w.heap.size + 4 < w1.heap.size := by omega); (try have q1_0_0 : w0.heap.size < w1.heap.size := by omega); (try have q1_0_1 : w0.heap.size + 1 < w1.heap.size := by omega); (try have q1_2_0 : w2.heap.size < w1.heap.size := by omega); (try have q1_2_1 : w2.heap.size + 1 < w1.heap.size := by omega); (try have q1_3_0 : w3.heap.size < w1.heap.size := by omega); (try have q1_3_1 : w3.heap.size + 1 < w1.heap.size := by omega); (try have q1_4_0 : w4.heap.size < w1.heap.size := by omega); (try have q1_4_1 : w4.heap.size + 1 < w1.heap.size := by omega); (try have q1_5_0 : w5.heap.size < w1.heap.size := by omega); (try have q1_5_1 : w5.heap.size + 1 < w1.heap.size := by omega); (try have q1_6_0 : w6.heap.size < w1.heap.size := by omega); (try have q1_6_1 : w6.heap.size + 1 < w1.heap.size := by omega); (try have u1_b : b < w1.heap.size := by omega); (try have u1_q : q < w1.heap.size := by omega); (try have u1_g : g < w1.heap.size := by omega); (try have u1_g1 : g1 < w1.heap.size := by omega); (try have u1_g2 : g2 < w1.heap.size := by omega); (try have u1_g3 : g3 < w1.heap.size := by omega); (try have u1_g4 : g4 < w1.heap.size := by omega); (try have u1_g5 : g5 < w1.heap.size := by omega))
        go_ret
        exact ⟨ret_bool (formB_bad hlt K.out).symm, (by have hbw := HB.out; (repeat (first | with_reducible exact Below.refl _ _ | with_reducible refine Below.drew ?_ | (with_reducible refine Below.alloc ?_ ?hsz _; case hsz => ((try simp) <;> (try omega))) | (with_reducible refine Below.setCell ?_ ?hsz _; case hsz => ((try simp) <;> (try omega))) | (with_reducible refine below_step (by with_reducible assumption) ?hsz ?_; case hsz => ((try simp) <;> (try omega))))))⟩
    · obtain rfl : m = n := by omega
      have HE := Lib.hid (show formB F m = inB m 1 30 by simp only [formB, allB_iff.2 hF.out, Bool.true_and])
      go_wp2_with (go_at_call 55; (with_reducible refine (l01In_any m 1 30 _).mono ?_); rintro e w' ⟨rfl, rfl⟩)
      go_ret
      exact ⟨ret_bool HE.out.symm, hbw⟩
end Go.Proofs.Ytgfcmeiffhffaaa
