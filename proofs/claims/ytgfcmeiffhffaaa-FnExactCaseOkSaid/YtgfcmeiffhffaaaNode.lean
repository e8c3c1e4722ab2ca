/- Contracts of NodeOk, of the program and of the reference. -/
import Derived.Test.YtgfcmeiffhffaaaFracI
import Derived.RegionTactic
import Derived.BigRegion
namespace Go.Proofs.Ytgfcmeiffhffaaa
open Go.RowKit

/-- Is a node right at place t? -/
def nodeB (k a b c p q t : Int) : Bool :=
  if k = 1 then decide (a = 0) && (decide (b = 0) && (decide (c = 0) && fracI p q))
  else decide (p = 0) && (decide (q = 0) && (
    if k = 2 then inB a 0 7 && (decide (b = 0) && decide (c = 0))
    else if inB k 3 8 = true then inB a 0 (t - 1) && (inB b 0 (t - 1) && decide (c = 0))
    else decide (k = 9) && (inB a 0 (t - 1) && (inB b 0 (t - 1) && inB c 0 (t - 1)))))
set_option maxHeartbeats 8000000 in
theorem nodeOk_any (k a b c p q : Int) (t : Nat) (ht : t ≤ 1048576) (w : World) : Calls Try.prog 127 #[.agg #[.int .i64 k, .int .i64 a, .int .i64 b, .int .i64 c, .int .i64 p, .int .i64 q], .int .i64 t] w fun e w' => e = .returned (.bool (nodeB k a b c p q t)) ∧ Below w.heap.size w w' := by
  by_cases k1 : k = 1
  · subst k1
    go_enter Try.func127, Try.ntmps127
    go_wp2_with (go_at_call 93; (with_reducible refine (fracOkI_any p q _).mono ?_); rintro e w1 ⟨rfl, hb1⟩; obtain ⟨hc1, hf1⟩ := bcell hb1; (try simp only [World.size_drew] at hc1 hf1); have hz1 := hb1.size; (try simp at hz1); (try have q1_0 : w.heap.size < w1.heap.size := by omega); (try have q1_1 : w.heap.size + 1 < w1.heap.size := by omega); (try have q1_2 : w.heap.size + 2 < w1.heap.size := by omega); (try have q1_3 : w.heap.size + 3 < w1.heap.size := by omega); (try have q1_4 : w.heap.size + 4 < w1.heap.size := by omega); (try have q1_0_0 : w0.heap.size < w1.heap.size := by omega); (try have q1_0_1 : w0.heap.size + 1 < w1.heap.size := by omega); (try have q1_2_0 : w2.heap.size < w1.heap.size := by omega); (try have q1_2_1 : w2.heap.size + 1 < w1.heap.size := by omega); (try have q1_3_0 : w3.heap.size < w1.heap.size := by omega); (try have q1_3_1 : w3.heap.size + 1 < w1.heap.size := by omega); (try have q1_4_0 : w4.heap.size < w1.heap.size := by omega); (try have q1_4_1 : w4.heap.size + 1 < w1.heap.size := by omega); (try have q1_5_0 : w5.heap.size < w1.heap.size := by omega); (try have q1_5_1 : w5.heap.size + 1 < w1.heap.size := by omega); (try have q1_6_0 : w6.heap.size < w1.heap.size := by omega); (try have q1_6_1 : w6.heap.size + 1 < w1.heap.size := by omega); (try have u1_b : b < w1.heap.size := by omega); (try have u1_q : q < w1.heap.size := by omega); (try have u1_g : g < w1.heap.size := by omega); (try have u1_g1 : g1 < w1.heap.size := by omega); (try have u1_g2 : g2 < w1.heap.size := by omega); (try have u1_g3 : g3 < w1.heap.size := by omega); (try have u1_g4 : g4 < w1.heap.size := by omega); (try have u1_g5 : g5 < w1.heap.size := by omega))
    all_goals go_ret
    all_goals exact ⟨ret_bool (by simp [nodeB, *]), by (repeat (first | with_reducible exact Below.refl _ _ | with_reducible refine Below.drew ?_ | (with_reducible refine Below.alloc ?_ ?hsz _; case hsz => ((try simp) <;> (try omega))) | (with_reducible refine Below.setCell ?_ ?hsz _; case hsz => ((try simp) <;> (try omega))) | (with_reducible refine below_step (by with_reducible assumption) ?hsz ?_; case hsz => ((try simp) <;> (try omega)))))⟩
  · have k1' : (k == 1) = false := by simp [k1]
    by_cases k2 : k = 2
    · subst k2
      go_enter Try.func127, Try.ntmps127
      go_wp2_with (go_at_call 59; (with_reducible refine (within_any a 0 7 _).mono ?_); rintro e w' ⟨rfl, rfl⟩)
      all_goals go_ret
      all_goals exact ⟨ret_bool (by simp [nodeB, *]), by (repeat (first | with_reducible exact Below.refl _ _ | with_reducible refine Below.drew ?_ | (with_reducible refine Below.alloc ?_ ?hsz _; case hsz => ((try simp) <;> (try omega))) | (with_reducible refine Below.setCell ?_ ?hsz _; case hsz => ((try simp) <;> (try omega))) | (with_reducible refine below_step (by with_reducible assumption) ?hsz ?_; case hsz => ((try simp) <;> (try omega)))))⟩
    · have k2' : (k == 2) = false := by simp [k2]
      rcases Bool.eq_false_or_eq_true (inB k 3 9) with k3 | k3
      · obtain ⟨m0, m1⟩ := inB_true.1 k3
        have hw : IntKind.i64.wrap ((t : Int) - 1) = (t : Int) - 1 := by rw [IntKind.wrap_i64]; omega
        rcases Bool.eq_false_or_eq_true (decide (0 < t)) with t1 | t1
        · have t2 := of_decide_eq_true t1
          have z0 : inB 0 0 ((t : Int) - 1) = true := inB_true.2 (by omega)
          by_cases k9 : k = 9
          · subst k9
            have k4 : inB 9 3 8 = false := by decide
            rcases Bool.eq_false_or_eq_true (inB a 0 ((t : Int) - 1)) with ia | ia <;> rcases Bool.eq_false_or_eq_true (inB b 0 ((t : Int) - 1)) with ib | ib
            all_goals
              go_enter Try.func127, Try.ntmps127
              go_wp2_with (first | (go_at_call 59; (with_reducible refine (within_any k 3 9 _).mono ?_); rintro e w' ⟨rfl, rfl⟩) | (go_at_call 59; (with_reducible refine (within_any 9 3 9 _).mono ?_); rintro e w' ⟨rfl, rfl⟩) | (go_at_call 59; (with_reducible refine (within_any a 0 ((t : Int) - 1) _).mono ?_); rintro e w' ⟨rfl, rfl⟩) | (go_at_call 59; (with_reducible refine (within_any b 0 ((t : Int) - 1) _).mono ?_); rintro e w' ⟨rfl, rfl⟩) | (go_at_call 59; (with_reducible refine (within_any c 0 ((t : Int) - 1) _).mono ?_); rintro e w' ⟨rfl, rfl⟩) | (go_at_call 59; (with_reducible refine (within_any 0 0 ((t : Int) - 1) _).mono ?_); rintro e w' ⟨rfl, rfl⟩))
              go_big_region
              go_wp2_with (first | (go_at_call 59; (with_reducible refine (within_any k 3 9 _).mono ?_); rintro e w' ⟨rfl, rfl⟩) | (go_at_call 59; (with_reducible refine (within_any 9 3 9 _).mono ?_); rintro e w' ⟨rfl, rfl⟩) | (go_at_call 59; (with_reducible refine (within_any a 0 ((t : Int) - 1) _).mono ?_); rintro e w' ⟨rfl, rfl⟩) | (go_at_call 59; (with_reducible refine (within_any b 0 ((t : Int) - 1) _).mono ?_); rintro e w' ⟨rfl, rfl⟩) | (go_at_call 59; (with_reducible refine (within_any c 0 ((t : Int) - 1) _).mono ?_); rintro e w' ⟨rfl, rfl⟩) | (go_at_call 59; (with_reducible refine (within_any 0 0 ((t : Int) - 1) _).mono ?_); rintro e w' ⟨rfl, rfl⟩))
              all_goals go_ret
              all_goals exact ⟨ret_bool (by simp [nodeB, *]), by (repeat (first | with_reducible exact Below.refl _ _ | with_reducible refine Below.drew ?_ | (with_reducible refine Below.alloc ?_ ?hsz _; case hsz => ((try simp) <;> (try omega))) | (with_reducible refine Below.setCell ?_ ?hsz _; case hsz => ((try simp) <;> (try omega))) | (with_reducible refine below_step (by with_reducible assumption) ?hsz ?_; case hsz => ((try simp) <;> (try omega)))))⟩
          · have k9' : (k == 9) = false := by simp [k9]
            have k4 : inB k 3 8 = true := inB_true.2 (by omega)
            rcases Bool.eq_false_or_eq_true (inB a 0 ((t : Int) - 1)) with ia | ia <;> rcases Bool.eq_false_or_eq_true (inB b 0 ((t : Int) - 1)) with ib | ib
            all_goals
              go_enter Try.func127, Try.ntmps127
              go_wp2_with (first | (go_at_call 59; (with_reducible refine (within_any k 3 9 _).mono ?_); rintro e w' ⟨rfl, rfl⟩) | (go_at_call 59; (with_reducible refine (within_any 9 3 9 _).mono ?_); rintro e w' ⟨rfl, rfl⟩) | (go_at_call 59; (with_reducible refine (within_any a 0 ((t : Int) - 1) _).mono ?_); rintro e w' ⟨rfl, rfl⟩) | (go_at_call 59; (with_reducible refine (within_any b 0 ((t : Int) - 1) _).mono ?_); rintro e w' ⟨rfl, rfl⟩) | (go_at_call 59; (with_reducible refine (within_any c 0 ((t : Int) - 1) _).mono ?_); rintro e w' ⟨rfl, rfl⟩) | (go_at_call 59; (with_reducible refine (within_any 0 0 ((t : Int) - 1) _).mono ?_); rintro e w' ⟨rfl, rfl⟩))
              go_big_region
              go_wp2_with (first | (go_at_call 59; (with_reducible refine (within_any k 3 9 _).mono ?_); rintro e w' ⟨rfl, rfl⟩) | (go_at_call 59; (with_reducible refine (within_any 9 3 9 _).mono ?_); rintro e w' ⟨rfl, rfl⟩) | (go_at_call 59; (with_reducible refine (within_any a 0 ((t : Int) - 1) _).mono ?_); rintro e w' ⟨rfl, rfl⟩) | (go_at_call 59; (with_reducible refine (within_any b 0 ((t : Int) - 1) _).mono ?_); rintro e w' ⟨rfl, rfl⟩) | (go_at_call 59; (with_reducible refine (within_any c 0 ((t : Int) - 1) _).mono ?_); rintro e w' ⟨rfl, rfl⟩) | (go_at_call 59; (with_reducible refine (within_any 0 0 ((t : Int) - 1) _).mono ?_); rintro e w' ⟨rfl, rfl⟩))
              all_goals go_ret
              all_goals exact ⟨ret_bool (by simp [nodeB, *]), by (repeat (first | with_reducible exact Below.refl _ _ | with_reducible refine Below.drew ?_ | (with_reducible refine Below.alloc ?_ ?hsz _; case hsz => ((try simp) <;> (try omega))) | (with_reducible refine Below.setCell ?_ ?hsz _; case hsz => ((try simp) <;> (try omega))) | (with_reducible refine below_step (by with_reducible assumption) ?hsz ?_; case hsz => ((try simp) <;> (try omega)))))⟩
        · have t2 := of_decide_eq_false t1
          have ia : inB a 0 ((t : Int) - 1) = false := by rw [Bool.eq_false_iff]; intro h; have := inB_true.1 h; omega
          by_cases k9 : k = 9
          · subst k9
            have k4 : inB 9 3 8 = false := by decide
            go_enter Try.func127, Try.ntmps127
            go_wp2_with (first | (go_at_call 59; (with_reducible refine (within_any k 3 9 _).mono ?_); rintro e w' ⟨rfl, rfl⟩) | (go_at_call 59; (with_reducible refine (within_any 9 3 9 _).mono ?_); rintro e w' ⟨rfl, rfl⟩) | (go_at_call 59; (with_reducible refine (within_any a 0 ((t : Int) - 1) _).mono ?_); rintro e w' ⟨rfl, rfl⟩) | (go_at_call 59; (with_reducible refine (within_any b 0 ((t : Int) - 1) _).mono ?_); rintro e w' ⟨rfl, rfl⟩) | (go_at_call 59; (with_reducible refine (within_any c 0 ((t : Int) - 1) _).mono ?_); rintro e w' ⟨rfl, rfl⟩) | (go_at_call 59; (with_reducible refine (within_any 0 0 ((t : Int) - 1) _).mono ?_); rintro e w' ⟨rfl, rfl⟩))
            go_big_region
            go_wp2_with (first | (go_at_call 59; (with_reducible refine (within_any k 3 9 _).mono ?_); rintro e w' ⟨rfl, rfl⟩) | (go_at_call 59; (with_reducible refine (within_any 9 3 9 _).mono ?_); rintro e w' ⟨rfl, rfl⟩) | (go_at_call 59; (with_reducible refine (within_any a 0 ((t : Int) - 1) _).mono ?_); rintro e w' ⟨rfl, rfl⟩) | (go_at_call 59; (with_reducible refine (within_any b 0 ((t : Int) - 1) _).mono ?_); rintro e w' ⟨rfl, rfl⟩) | (go_at_call 59; (with_reducible refine (within_any c 0 ((t : Int) - 1) _).mono ?_); rintro e w' ⟨rfl, rfl⟩) | (go_at_call 59; (with_reducible refine (within_any 0 0 ((t : Int) - 1) _).mono ?_); rintro e w' ⟨rfl, rfl⟩))
            all_goals go_ret
            all_goals exact ⟨ret_bool (by simp [nodeB, *]), by (repeat (first | with_reducible exact Below.refl _ _ | with_reducible refine Below.drew ?_ | (with_reducible refine Below.alloc ?_ ?hsz _; case hsz => ((try simp) <;> (try omega))) | (with_reducible refine Below.setCell ?_ ?hsz _; case hsz => ((try simp) <;> (try omega))) | (with_reducible refine below_step (by with_reducible assumption) ?hsz ?_; case hsz => ((try simp) <;> (try omega)))))⟩
          · have k9' : (k == 9) = false := by simp [k9]
            have k4 : inB k 3 8 = true := inB_true.2 (by omega)
            go_enter Try.func127, Try.ntmps127
            go_wp2_with (first | (go_at_call 59; (with_reducible refine (within_any k 3 9 _).mono ?_); rintro e w' ⟨rfl, rfl⟩) | (go_at_call 59; (with_reducible refine (within_any 9 3 9 _).mono ?_); rintro e w' ⟨rfl, rfl⟩) | (go_at_call 59; (with_reducible refine (within_any a 0 ((t : Int) - 1) _).mono ?_); rintro e w' ⟨rfl, rfl⟩) | (go_at_call 59; (with_reducible refine (within_any b 0 ((t : Int) - 1) _).mono ?_); rintro e w' ⟨rfl, rfl⟩) | (go_at_call 59; (with_reducible refine (within_any c 0 ((t : Int) - 1) _).mono ?_); rintro e w' ⟨rfl, rfl⟩) | (go_at_call 59; (with_reducible refine (within_any 0 0 ((t : Int) - 1) _).mono ?_); rintro e w' ⟨rfl, rfl⟩))
            go_big_region
            go_wp2_with (first | (go_at_call 59; (with_reducible refine (within_any k 3 9 _).mono ?_); rintro e w' ⟨rfl, rfl⟩) | (go_at_call 59; (with_reducible refine (within_any 9 3 9 _).mono ?_); rintro e w' ⟨rfl, rfl⟩) | (go_at_call 59; (with_reducible refine (within_any a 0 ((t : Int) - 1) _).mono ?_); rintro e w' ⟨rfl, rfl⟩) | (go_at_call 59; (with_reducible refine (within_any b 0 ((t : Int) - 1) _).mono ?_); rintro e w' ⟨rfl, rfl⟩) | (go_at_call 59; (with_reducible refine (within_any c 0 ((t : Int) - 1) _).mono ?_); rintro e w' ⟨rfl, rfl⟩) | (go_at_call 59; (with_reducible refine (within_any 0 0 ((t : Int) - 1) _).mono ?_); rintro e w' ⟨rfl, rfl⟩))
            all_goals go_ret
            all_goals exact ⟨ret_bool (by simp [nodeB, *]), by (repeat (first | with_reducible exact Below.refl _ _ | with_reducible refine Below.drew ?_ | (with_reducible refine Below.alloc ?_ ?hsz _; case hsz => ((try simp) <;> (try omega))) | (with_reducible refine Below.setCell ?_ ?hsz _; case hsz => ((try simp) <;> (try omega))) | (with_reducible refine below_step (by with_reducible assumption) ?hsz ?_; case hsz => ((try simp) <;> (try omega)))))⟩
      · have k9 : ¬ k = 9 := fun h => by rw [h] at k3; cases k3
        have k4 : inB k 3 8 = false := by
          rw [Bool.eq_false_iff]
          intro h
          rw [inB_true.2 (show 3 ≤ k ∧ k ≤ 9 by have := inB_true.1 h; omega)] at k3
          cases k3
        go_enter Try.func127, Try.ntmps127
        go_wp2_with (go_at_call 59; (with_reducible refine (within_any k 3 9 _).mono ?_); rintro e w' ⟨rfl, rfl⟩)
        all_goals go_ret
        all_goals exact ⟨ret_bool (by simp [nodeB, *]), by (repeat (first | with_reducible exact Below.refl _ _ | with_reducible refine Below.drew ?_ | (with_reducible refine Below.alloc ?_ ?hsz _; case hsz => ((try simp) <;> (try omega))) | (with_reducible refine Below.setCell ?_ ?hsz _; case hsz => ((try simp) <;> (try omega))) | (with_reducible refine below_step (by with_reducible assumption) ?hsz ?_; case hsz => ((try simp) <;> (try omega)))))⟩
end Go.Proofs.Ytgfcmeiffhffaaa
