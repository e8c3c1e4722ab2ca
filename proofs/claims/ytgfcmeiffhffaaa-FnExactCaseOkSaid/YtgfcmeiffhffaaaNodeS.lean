/- Contract of the reference's NodeOk. -/
import Derived.Test.YtgfcmeiffhffaaaNode
namespace Go.Proofs.Ytgfcmeiffhffaaa
open Go.RowKit

theorem l08At_any (x : Int) (t : Nat) (w : World) : Calls Try.prog 138 #[.int .i64 x, .int .i64 t] w fun e w' => e = .returned (.bool (inB x 0 ((t : Int) - 1))) ∧ w = w' := by
  rcases Bool.eq_false_or_eq_true (decide (0 ≤ x)) with h | h
  · have h1 := of_decide_eq_true h
    have HE := Lib.hid (show inB x 0 ((t : Int) - 1) = decide (x < t) by rw [Bool.eq_iff_iff, inB_true]; simp; omega)
    go_enter Try.func138, Try.ntmps138
    go_wp2
    go_ret
    exact ⟨ret_bool HE.out.symm, rfl⟩
  · have h1 := of_decide_eq_false h
    have HE := Lib.hid (show inB x 0 ((t : Int) - 1) = false by rw [Bool.eq_false_iff, ne_eq, inB_true]; omega)
    go_enter Try.func138, Try.ntmps138
    go_wp2
    go_ret
    exact ⟨ret_bool HE.out.symm, rfl⟩
theorem l08Two_any (x : Int) (w : World) : Calls Try.prog 137 #[.int .i64 x] w fun e w' => e = .returned (.bool (inB x 3 8)) ∧ w = w' := by
  go_enter Try.func137, Try.ntmps137
  go_wp2_with (go_at_call 55; (with_reducible refine (l01In_any x 3 8 _).mono ?_); rintro e w' ⟨rfl, rfl⟩)
  go_ret
  exact ⟨rfl, rfl⟩
set_option maxHeartbeats 8000000 in
theorem snodeOk_any (k a b c p q : Int) (t : Nat) (w : World) : Calls Try.prog 125 #[.agg #[.int .i64 k, .int .i64 a, .int .i64 b, .int .i64 c, .int .i64 p, .int .i64 q], .int .i64 t] w fun e w' => e = .returned (.bool (nodeB k a b c p q t)) ∧ Below w.heap.size w w' := by
  by_cases k1 : k = 1
  · subst k1
    rcases Bool.eq_false_or_eq_true (a == 0) with a0 | a0 <;> rcases Bool.eq_false_or_eq_true (b == 0) with b0 | b0 <;> rcases Bool.eq_false_or_eq_true (c == 0) with c0 | c0
    all_goals
      have HE := Lib.hid (show nodeB 1 a b c p q t = ((a == 0) && ((b == 0) && ((c == 0) && fracI p q))) by rfl)
      rw [a0, b0, c0] at HE
      go_enter Try.func125, Try.ntmps125
      go_wp2_with (go_at_call 136; (with_reducible refine (sfracOkI_any p q _).mono ?_); rintro e w1 ⟨rfl, hb1⟩; obtain ⟨hc1, hf1⟩ := bcell hb1; (try simp only [World.size_drew] at hc1 hf1); have hz1 := hb1.size; (try simp at hz1); (try have q1_0 : w.heap.size < w1.heap.size := by omega); (try have q1_1 : w.heap.size + 1 < w1.heap.size := by omega); (try have q1_2 : w.heap.size + 2 < w1.heap.size := by omega); (try have q1_3 : w.heap.size + 3 < w1.heap.size := by omega); (try have q1_4 : w.heap.size + 4 < w1.heap.size := by omega); (try have q1_0_0 : w0.heap.size < w1.heap.size := by omega); (try have q1_0_1 : w0.heap.size + 1 < w1.heap.size := by omega); (try have q1_2_0 : w2.heap.size < w1.heap.size := by omega); (try have q1_2_1 : w2.heap.size + 1 < w1.heap.size := by omega); (try have q1_3_0 : w3.heap.size < w1.heap.size := by omega); (try have q1_3_1 : w3.heap.size + 1 < w1.heap.size := by omega); (try have q1_4_0 : w4.heap.size < w1.heap.size := by omega); (try have q1_4_1 : w4.heap.size + 1 < w1.heap.size := by omega); (try have q1_5_0 : w5.heap.size < w1.heap.size := by omega); (try have q1_5_1 : w5.heap.size + 1 < w1.heap.size := by omega); (try have q1_6_0 : w6.heap.size < w1.heap.size := by omega); (try have q1_6_1 : w6.heap.size + 1 < w1.heap.size := by omega); (try have u1_b : b < w1.heap.size := by omega); (try have u1_q : q < w1.heap.size := by omega); (try have u1_g : g < w1.heap.size := by omega); (try have u1_g1 : g1 < w1.heap.size := by omega); (try have u1_g2 : g2 < w1.heap.size := by omega); (try have u1_g3 : g3 < w1.heap.size := by omega); (try have u1_g4 : g4 < w1.heap.size := by omega); (try have u1_g5 : g5 < w1.heap.size := by omega))
      go_ret
      exact ⟨ret_bool (by rw [HE.out]; first | rfl | simp), by (repeat (first | with_reducible exact Below.refl _ _ | with_reducible refine Below.drew ?_ | (with_reducible refine Below.alloc ?_ ?hsz _; case hsz => ((try simp) <;> (try omega))) | (with_reducible refine Below.setCell ?_ ?hsz _; case hsz => ((try simp) <;> (try omega))) | (with_reducible refine below_step (by with_reducible assumption) ?hsz ?_; case hsz => ((try simp) <;> (try omega)))))⟩
  · have k1' : (k == 1) = false := by simp [k1]
    by_cases hz : p = 0 ∧ q = 0
    · obtain ⟨rfl, rfl⟩ := hz
      by_cases k2 : k = 2
      · subst k2
        rcases Bool.eq_false_or_eq_true (inB a 0 7) with a0 | a0 <;> rcases Bool.eq_false_or_eq_true (b == 0) with b0 | b0
        all_goals
          have HE := Lib.hid (show nodeB 2 a b c 0 0 t = (inB a 0 7 && ((b == 0) && (c == 0))) by rfl)
          rw [a0, b0] at HE
          go_enter Try.func125, Try.ntmps125
          go_wp2_with (first | (go_at_call 55; (with_reducible refine (l01In_any a 0 7 _).mono ?_); rintro e w' ⟨rfl, rfl⟩) | (go_at_call 137; (with_reducible refine (l08Two_any k _).mono ?_); rintro e w' ⟨rfl, rfl⟩) | (go_at_call 138; (with_reducible refine (l08At_any a t _).mono ?_); rintro e w' ⟨rfl, rfl⟩) | (go_at_call 138; (with_reducible refine (l08At_any b t _).mono ?_); rintro e w' ⟨rfl, rfl⟩) | (go_at_call 138; (with_reducible refine (l08At_any c t _).mono ?_); rintro e w' ⟨rfl, rfl⟩))
          go_ret
          exact ⟨ret_bool (by rw [HE.out]; first | rfl | simp), by (repeat (first | with_reducible exact Below.refl _ _ | with_reducible refine Below.drew ?_ | (with_reducible refine Below.alloc ?_ ?hsz _; case hsz => ((try simp) <;> (try omega))) | (with_reducible refine Below.setCell ?_ ?hsz _; case hsz => ((try simp) <;> (try omega))) | (with_reducible refine below_step (by with_reducible assumption) ?hsz ?_; case hsz => ((try simp) <;> (try omega)))))⟩
      · have k2' : (k == 2) = false := by simp [k2]
        rcases Bool.eq_false_or_eq_true (inB k 3 8) with k3 | k3
        · rcases Bool.eq_false_or_eq_true (inB a 0 ((t : Int) - 1)) with a0 | a0 <;> rcases Bool.eq_false_or_eq_true (inB b 0 ((t : Int) - 1)) with b0 | b0
          all_goals
            have HE := Lib.hid (show nodeB k a b c 0 0 t = (inB a 0 ((t : Int) - 1) && (inB b 0 ((t : Int) - 1) && (c == 0))) by simp only [nodeB, if_neg k1, if_neg k2, if_pos k3]; simp; rfl)
            rw [a0, b0] at HE
            go_enter Try.func125, Try.ntmps125
            go_wp2_with (first | (go_at_call 55; (with_reducible refine (l01In_any a 0 7 _).mono ?_); rintro e w' ⟨rfl, rfl⟩) | (go_at_call 137; (with_reducible refine (l08Two_any k _).mono ?_); rintro e w' ⟨rfl, rfl⟩) | (go_at_call 138; (with_reducible refine (l08At_any a t _).mono ?_); rintro e w' ⟨rfl, rfl⟩) | (go_at_call 138; (with_reducible refine (l08At_any b t _).mono ?_); rintro e w' ⟨rfl, rfl⟩) | (go_at_call 138; (with_reducible refine (l08At_any c t _).mono ?_); rintro e w' ⟨rfl, rfl⟩))
            go_ret
            exact ⟨ret_bool (by rw [HE.out]; first | rfl | simp), by (repeat (first | with_reducible exact Below.refl _ _ | with_reducible refine Below.drew ?_ | (with_reducible refine Below.alloc ?_ ?hsz _; case hsz => ((try simp) <;> (try omega))) | (with_reducible refine Below.setCell ?_ ?hsz _; case hsz => ((try simp) <;> (try omega))) | (with_reducible refine below_step (by with_reducible assumption) ?hsz ?_; case hsz => ((try simp) <;> (try omega)))))⟩
        · have k3' : ¬ inB k 3 8 = true := by rw [k3]; decide
          rcases Bool.eq_false_or_eq_true (k == 9) with k9 | k9
          · rcases Bool.eq_false_or_eq_true (inB a 0 ((t : Int) - 1)) with a0 | a0 <;> rcases Bool.eq_false_or_eq_true (inB b 0 ((t : Int) - 1)) with b0 | b0
            all_goals
              have HE := Lib.hid (show nodeB k a b c 0 0 t = ((k == 9) && (inB a 0 ((t : Int) - 1) && (inB b 0 ((t : Int) - 1) && inB c 0 ((t : Int) - 1)))) by simp only [nodeB, if_neg k1, if_neg k2, if_neg k3']; simp; rfl)
              rw [k9, a0, b0] at HE
              go_enter Try.func125, Try.ntmps125
              go_wp2_with (first | (go_at_call 55; (with_reducible refine (l01In_any a 0 7 _).mono ?_); rintro e w' ⟨rfl, rfl⟩) | (go_at_call 137; (with_reducible refine (l08Two_any k _).mono ?_); rintro e w' ⟨rfl, rfl⟩) | (go_at_call 138; (with_reducible refine (l08At_any a t _).mono ?_); rintro e w' ⟨rfl, rfl⟩) | (go_at_call 138; (with_reducible refine (l08At_any b t _).mono ?_); rintro e w' ⟨rfl, rfl⟩) | (go_at_call 138; (with_reducible refine (l08At_any c t _).mono ?_); rintro e w' ⟨rfl, rfl⟩))
              go_ret
              exact ⟨ret_bool (by rw [HE.out]; first | rfl | simp), by (repeat (first | with_reducible exact Below.refl _ _ | with_reducible refine Below.drew ?_ | (with_reducible refine Below.alloc ?_ ?hsz _; case hsz => ((try simp) <;> (try omega))) | (with_reducible refine Below.setCell ?_ ?hsz _; case hsz => ((try simp) <;> (try omega))) | (with_reducible refine below_step (by with_reducible assumption) ?hsz ?_; case hsz => ((try simp) <;> (try omega)))))⟩
          · have HE := Lib.hid (show nodeB k a b c 0 0 t = ((k == 9) && (inB a 0 ((t : Int) - 1) && (inB b 0 ((t : Int) - 1) && inB c 0 ((t : Int) - 1)))) by simp only [nodeB, if_neg k1, if_neg k2, if_neg k3']; simp; rfl)
            rw [k9] at HE
            go_enter Try.func125, Try.ntmps125
            go_wp2_with (first | (go_at_call 55; (with_reducible refine (l01In_any a 0 7 _).mono ?_); rintro e w' ⟨rfl, rfl⟩) | (go_at_call 137; (with_reducible refine (l08Two_any k _).mono ?_); rintro e w' ⟨rfl, rfl⟩) | (go_at_call 138; (with_reducible refine (l08At_any a t _).mono ?_); rintro e w' ⟨rfl, rfl⟩) | (go_at_call 138; (with_reducible refine (l08At_any b t _).mono ?_); rintro e w' ⟨rfl, rfl⟩) | (go_at_call 138; (with_reducible refine (l08At_any c t _).mono ?_); rintro e w' ⟨rfl, rfl⟩))
            go_ret
            exact ⟨ret_bool (by rw [HE.out]; first | rfl | simp), by (repeat (first | with_reducible exact Below.refl _ _ | with_reducible refine Below.drew ?_ | (with_reducible refine Below.alloc ?_ ?hsz _; case hsz => ((try simp) <;> (try omega))) | (with_reducible refine Below.setCell ?_ ?hsz _; case hsz => ((try simp) <;> (try omega))) | (with_reducible refine below_step (by with_reducible assumption) ?hsz ?_; case hsz => ((try simp) <;> (try omega)))))⟩
    · have HE := Lib.hid (show nodeB k a b c p q t = false by
        simp only [nodeB, if_neg k1]
        by_cases hp : p = 0
        · have : ¬ q = 0 := fun hq => hz ⟨hp, hq⟩
          simp [this]
        · simp [hp])
      go_enter Try.func125, Try.ntmps125
      go_wp2_with (first | (go_at_call 55; (with_reducible refine (l01In_any a 0 7 _).mono ?_); rintro e w' ⟨rfl, rfl⟩) | (go_at_call 137; (with_reducible refine (l08Two_any k _).mono ?_); rintro e w' ⟨rfl, rfl⟩) | (go_at_call 138; (with_reducible refine (l08At_any a t _).mono ?_); rintro e w' ⟨rfl, rfl⟩) | (go_at_call 138; (with_reducible refine (l08At_any b t _).mono ?_); rintro e w' ⟨rfl, rfl⟩) | (go_at_call 138; (with_reducible refine (l08At_any c t _).mono ?_); rintro e w' ⟨rfl, rfl⟩))
      all_goals go_ret
      all_goals exact ⟨ret_bool (by rw [HE.out]), by (repeat (first | with_reducible exact Below.refl _ _ | with_reducible refine Below.drew ?_ | (with_reducible refine Below.alloc ?_ ?hsz _; case hsz => ((try simp) <;> (try omega))) | (with_reducible refine Below.setCell ?_ ?hsz _; case hsz => ((try simp) <;> (try omega))) | (with_reducible refine below_step (by with_reducible assumption) ?hsz ?_; case hsz => ((try simp) <;> (try omega)))))⟩
end Go.Proofs.Ytgfcmeiffhffaaa
