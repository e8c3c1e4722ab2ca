/- Contract of the program's RuleFor, at valid books. -/
import Derived.BigQuiet
import Derived.Deep.QuietTactic
import Derived.Outline
import Derived.Test.YtgfcmeiffhffaaaJRow
import Derived.Test.YtgfcmeiffhffaaaJForm
import Derived.Test.YtgfcmeiffhffaaaJSpan
namespace Go.Proofs.Ytgfcmeiffhffaaa
open Go.RowKit

def ruleB (r0 r1 r2 r3 r4 r5 : Int) (F : Nat → Nat → Int) (k : Nat) : Bool := inB r0 1 20 && (spanB r1 r2 && (inB r3 1 3600 && (inB r4 0 9 && (inB r5 1 4 && formB F k))))
set_option maxHeartbeats 2000000 in
theorem ruleOk_any (r0 r1 r2 r3 r4 r5 : Int) (NA : Option Addr) (k c : Nat) (F : Nat → Nat → Int) (w : World) (hk : k ≤ 1048576) (hr : Recs w 6 NA k F) :
    Calls Try.prog 73 #[.agg #[.int .i64 r0, .int .i64 r1, .int .i64 r2, .int .i64 r3, .int .i64 r4, .int .i64 r5, .slice NA k c]] w fun e w' => e = .returned (.bool (ruleB r0 r1 r2 r3 r4 r5 F k)) ∧ Below w.heap.size w w' := by
  have HR := Lib.hid (hr.alloc (.cells #[.int .i64 r0, .int .i64 r1, .int .i64 r2, .int .i64 r3, .int .i64 r4, .int .i64 r5, .slice NA k c] 119))
  clear hr
  rcases Bool.eq_false_or_eq_true (inB r0 1 20) with a1 | a1
  · rcases Bool.eq_false_or_eq_true (spanB r1 r2) with a2 | a2
    · rcases Bool.eq_false_or_eq_true (inB r3 1 3600) with a3 | a3
      · rcases Bool.eq_false_or_eq_true (inB r4 0 9) with a4 | a4
        · rcases Bool.eq_false_or_eq_true (inB r5 1 4) with a5 | a5
          · have HE := Lib.hid (show ruleB r0 r1 r2 r3 r4 r5 F k = formB F k by simp only [ruleB, a1, a2, a3, a4, a5, Bool.true_and])
            go_enter Try.func73, Try.ntmps73; go_wp2_with (first | (go_at_call 59; (with_reducible refine (within_any r0 1 20 _).mono ?_); rintro e w' ⟨rfl, rfl⟩) | (go_at_call 60; (with_reducible refine (isSpan_any r1 r2 _).mono ?_); rintro e w' ⟨rfl, rfl⟩) | (go_at_call 59; (with_reducible refine (within_any r3 1 3600 _).mono ?_); rintro e w' ⟨rfl, rfl⟩) | (go_at_call 59; (with_reducible refine (within_any r4 0 9 _).mono ?_); rintro e w' ⟨rfl, rfl⟩) | (go_at_call 59; (with_reducible refine (within_any r5 1 4 _).mono ?_); rintro e w' ⟨rfl, rfl⟩) | (go_at_call 103; (with_reducible refine (formOk_any NA k c F _ hk HR.out).mono ?_); rintro e w1 ⟨rfl, hb1⟩; obtain ⟨hc1, hf1⟩ := bcell hb1; (try simp only [World.size_drew] at hc1 hf1); have hz1 := hb1.size; (try simp at hz1); (try have q1_0 : w.heap.size < w1.heap.size := by omega); (try have q1_1 : w.heap.size + 1 < w1.heap.size := by omega); (try have q1_2 : w.heap.size + 2 < w1.heap.size := by omega); (try have q1_3 : w.heap.size + 3 < w1.heap.size := by omega); (try have q1_4 : w.heap.size + 4 < w1.heap.size := by omega); (try have q1_0_0 : w0.heap.size < w1.heap.size := by omega); (try have q1_0_1 : w0.heap.size + 1 < w1.heap.size := by omega); (try have q1_2_0 : w2.heap.size < w1.heap.size := by omega); (try have q1_2_1 : w2.heap.size + 1 < w1.heap.size := by omega); (try have q1_3_0 : w3.heap.size < w1.heap.size := by omega); (try have q1_3_1 : w3.heap.size + 1 < w1.heap.size := by omega); (try have q1_4_0 : w4.heap.size < w1.heap.size := by omega); (try have q1_4_1 : w4.heap.size + 1 < w1.heap.size := by omega); (try have q1_5_0 : w5.heap.size < w1.heap.size := by omega); (try have q1_5_1 : w5.heap.size + 1 < w1.heap.size := by omega); (try have q1_6_0 : w6.heap.size < w1.heap.size := by omega); (try have q1_6_1 : w6.heap.size + 1 < w1.heap.size := by omega); (try have u1_b : b < w1.heap.size := by omega); (try have u1_q : q < w1.heap.size := by omega); (try have u1_g : g < w1.heap.size := by omega); (try have u1_g1 : g1 < w1.heap.size := by omega); (try have u1_g2 : g2 < w1.heap.size := by omega); (try have u1_g3 : g3 < w1.heap.size := by omega); (try have u1_g4 : g4 < w1.heap.size := by omega); (try have u1_g5 : g5 < w1.heap.size := by omega))); go_ret; exact ⟨ret_bool HE.out.symm, by (repeat (first | with_reducible exact Below.refl _ _ | with_reducible refine Below.drew ?_ | (with_reducible refine Below.alloc ?_ ?hsz _; case hsz => ((try simp) <;> (try omega))) | (with_reducible refine Below.setCell ?_ ?hsz _; case hsz => ((try simp) <;> (try omega))) | (with_reducible refine below_step (by with_reducible assumption) ?hsz ?_; case hsz => ((try simp) <;> (try omega)))))⟩
          · have HE := Lib.hid (show ruleB r0 r1 r2 r3 r4 r5 F k = false by simp only [ruleB, a5, Bool.and_false, Bool.false_and])
            go_enter Try.func73, Try.ntmps73; go_wp2_with (first | (go_at_call 59; (with_reducible refine (within_any r0 1 20 _).mono ?_); rintro e w' ⟨rfl, rfl⟩) | (go_at_call 60; (with_reducible refine (isSpan_any r1 r2 _).mono ?_); rintro e w' ⟨rfl, rfl⟩) | (go_at_call 59; (with_reducible refine (within_any r3 1 3600 _).mono ?_); rintro e w' ⟨rfl, rfl⟩) | (go_at_call 59; (with_reducible refine (within_any r4 0 9 _).mono ?_); rintro e w' ⟨rfl, rfl⟩) | (go_at_call 59; (with_reducible refine (within_any r5 1 4 _).mono ?_); rintro e w' ⟨rfl, rfl⟩) | (go_at_call 103; (with_reducible refine (formOk_any NA k c F _ hk HR.out).mono ?_); rintro e w1 ⟨rfl, hb1⟩; obtain ⟨hc1, hf1⟩ := bcell hb1; (try simp only [World.size_drew] at hc1 hf1); have hz1 := hb1.size; (try simp at hz1); (try have q1_0 : w.heap.size < w1.heap.size := by omega); (try have q1_1 : w.heap.size + 1 < w1.heap.size := by omega); (try have q1_2 : w.heap.size + 2 < w1.heap.size := by omega); (try have q1_3 : w.heap.size + 3 < w1.heap.size := by omega); (try have q1_4 : w.heap.size + 4 < w1.heap.size := by omega); (try have q1_0_0 : w0.heap.size < w1.heap.size := by omega); (try have q1_0_1 : w0.heap.size + 1 < w1.heap.size := by omega); (try have q1_2_0 : w2.heap.size < w1.heap.size := by omega); (try have q1_2_1 : w2.heap.size + 1 < w1.heap.size := by omega); (try have q1_3_0 : w3.heap.size < w1.heap.size := by omega); (try have q1_3_1 : w3.heap.size + 1 < w1.heap.size := by omega); (try have q1_4_0 : w4.heap.size < w1.heap.size := by omega); (try have q1_4_1 : w4.heap.size + 1 < w1.heap.size := by omega); (try have q1_5_0 : w5.heap.size < w1.heap.size := by omega); (try have q1_5_1 : w5.heap.size + 1 < w1.heap.size := by omega); (try have q1_6_0 : w6.heap.size < w1.heap.size := by omega); (try have q1_6_1 : w6.heap.size + 1 < w1.heap.size := by omega); (try have u1_b : b < w1.heap.size := by omega); (try have u1_q : q < w1.heap.size := by omega); (try have u1_g : g < w1.heap.size := by omega); (try have u1_g1 : g1 < w1.heap.size := by omega); (try have u1_g2 : g2 < w1.heap.size := by omega); (try have u1_g3 : g3 < w1.heap.size := by omega); (try have u1_g4 : g4 < w1.heap.size := by omega); (try have u1_g5 : g5 < w1.heap.size := by omega))); go_ret; exact ⟨ret_bool HE.out.symm, by (repeat (first | with_reducible exact Below.refl _ _ | with_reducible refine Below.drew ?_ | (with_reducible refine Below.alloc ?_ ?hsz _; case hsz => ((try simp) <;> (try omega))) | (with_reducible refine Below.setCell ?_ ?hsz _; case hsz => ((try simp) <;> (try omega))) | (with_reducible refine below_step (by with_reducible assumption) ?hsz ?_; case hsz => ((try simp) <;> (try omega)))))⟩
        · have HE := Lib.hid (show ruleB r0 r1 r2 r3 r4 r5 F k = false by simp only [ruleB, a4, Bool.and_false, Bool.false_and])
          go_enter Try.func73, Try.ntmps73; go_wp2_with (first | (go_at_call 59; (with_reducible refine (within_any r0 1 20 _).mono ?_); rintro e w' ⟨rfl, rfl⟩) | (go_at_call 60; (with_reducible refine (isSpan_any r1 r2 _).mono ?_); rintro e w' ⟨rfl, rfl⟩) | (go_at_call 59; (with_reducible refine (within_any r3 1 3600 _).mono ?_); rintro e w' ⟨rfl, rfl⟩) | (go_at_call 59; (with_reducible refine (within_any r4 0 9 _).mono ?_); rintro e w' ⟨rfl, rfl⟩) | (go_at_call 59; (with_reducible refine (within_any r5 1 4 _).mono ?_); rintro e w' ⟨rfl, rfl⟩) | (go_at_call 103; (with_reducible refine (formOk_any NA k c F _ hk HR.out).mono ?_); rintro e w1 ⟨rfl, hb1⟩; obtain ⟨hc1, hf1⟩ := bcell hb1; (try simp only [World.size_drew] at hc1 hf1); have hz1 := hb1.size; (try simp at hz1); (try have q1_0 : w.heap.size < w1.heap.size := by omega); (try have q1_1 : w.heap.size + 1 < w1.heap.size := by omega); (try have q1_2 : w.heap.size + 2 < w1.heap.size := by omega); (try have q1_3 : w.heap.size + 3 < w1.heap.size := by omega); (try have q1_4 : w.heap.size + 4 < w1.heap.size := by omega); (try have q1_0_0 : w0.heap.size < w1.heap.size := by omega); (try have q1_0_1 : w0.heap.size + 1 < w1.heap.size := by omega); (try have q1_2_0 : w2.heap.size < w1.heap.size := by omega); (try have q1_2_1 : w2.heap.size + 1 < w1.heap.size := by omega); (try have q1_3_0 : w3.heap.size < w1.heap.size := by omega); (try have q1_3_1 : w3.heap.size + 1 < w1.heap.size := by omega); (try have q1_4_0 : w4.heap.size < w1.heap.size := by omega); (try have q1_4_1 : w4.heap.size + 1 < w1.heap.size := by omega); (try have q1_5_0 : w5.heap.size < w1.heap.size := by omega); (try have q1_5_1 : w5.heap.size + 1 < w1.heap.size := by omega); (try have q1_6_0 : w6.heap.size < w1.heap.size := by omega); (try have q1_6_1 : w6.heap.size + 1 < w1.heap.size := by omega); (try have u1_b : b < w1.heap.size := by omega); (try have u1_q : q < w1.heap.size := by omega); (try have u1_g : g < w1.heap.size := by omega); (try have u1_g1 : g1 < w1.heap.size := by omega); (try have u1_g2 : g2 < w1.heap.size := by omega); (try have u1_g3 : g3 < w1.heap.size := by omega); (try have u1_g4 : g4 < w1.heap.size := by omega); (try have u1_g5 : g5 < w1.heap.size := by omega))); go_ret; exact ⟨ret_bool HE.out.symm, by (repeat (first | with_reducible exact Below.refl _ _ | with_reducible refine Below.drew ?_ | (with_reducible refine Below.alloc ?_ ?hsz _; case hsz => ((try simp) <;> (try omega))) | (with_reducible refine Below.setCell ?_ ?hsz _; case hsz => ((try simp) <;> (try omega))) | (with_reducible refine below_step (by with_reducible assumption) ?hsz ?_; case hsz => ((try simp) <;> (try omega)))))⟩
      · have HE := Lib.hid (show ruleB r0 r1 r2 r3 r4 r5 F k = false by simp only [ruleB, a3, Bool.and_false, Bool.false_and])
        go_enter Try.func73, Try.ntmps73; go_wp2_with (first | (go_at_call 59; (with_reducible refine (within_any r0 1 20 _).mono ?_); rintro e w' ⟨rfl, rfl⟩) | (go_at_call 60; (with_reducible refine (isSpan_any r1 r2 _).mono ?_); rintro e w' ⟨rfl, rfl⟩) | (go_at_call 59; (with_reducible refine (within_any r3 1 3600 _).mono ?_); rintro e w' ⟨rfl, rfl⟩) | (go_at_call 59; (with_reducible refine (within_any r4 0 9 _).mono ?_); rintro e w' ⟨rfl, rfl⟩) | (go_at_call 59; (with_reducible refine (within_any r5 1 4 _).mono ?_); rintro e w' ⟨rfl, rfl⟩) | (go_at_call 103; (with_reducible refine (formOk_any NA k c F _ hk HR.out).mono ?_); rintro e w1 ⟨rfl, hb1⟩; obtain ⟨hc1, hf1⟩ := bcell hb1; (try simp only [World.size_drew] at hc1 hf1); have hz1 := hb1.size; (try simp at hz1); (try have q1_0 : w.heap.size < w1.heap.size := by omega); (try have q1_1 : w.heap.size + 1 < w1.heap.size := by omega); (try have q1_2 : w.heap.size + 2 < w1.heap.size := by omega); (try have q1_3 : w.heap.size + 3 < w1.heap.size := by omega); (try have q1_4 : w.heap.size + 4 < w1.heap.size := by omega); (try have q1_0_0 : w0.heap.size < w1.heap.size := by omega); (try have q1_0_1 : w0.heap.size + 1 < w1.heap.size := by omega); (try have q1_2_0 : w2.heap.size < w1.heap.size := by omega); (try have q1_2_1 : w2.heap.size + 1 < w1.heap.size := by omega); (try have q1_3_0 : w3.heap.size < w1.heap.size := by omega); (try have q1_3_1 : w3.heap.size + 1 < w1.heap.size := by omega); (try have q1_4_0 : w4.heap.size < w1.heap.size := by omega); (try have q1_4_1 : w4.heap.size + 1 < w1.heap.size := by omega); (try have q1_5_0 : w5.heap.size < w1.heap.size := by omega); (try have q1_5_1 : w5.heap.size + 1 < w1.heap.size := by omega); (try have q1_6_0 : w6.heap.size < w1.heap.size := by omega); (try have q1_6_1 : w6.heap.size + 1 < w1.heap.size := by omega); (try have u1_b : b < w1.heap.size := by omega); (try have u1_q : q < w1.heap.size := by omega); (try have u1_g : g < w1.heap.size := by omega); (try have u1_g1 : g1 < w1.heap.size := by omega); (try have u1_g2 : g2 < w1.heap.size := by omega); (try have u1_g3 : g3 < w1.heap.size := by omega); (try have u1_g4 : g4 < w1.heap.size := by omega); (try have u1_g5 : g5 < w1.heap.size := by omega))); go_ret; exact ⟨ret_bool HE.out.symm, by (repeat (first | with_reducible exact Below.refl _ _ | with_reducible refine Below.drew ?_ | (with_reducible refine Below.alloc ?_ ?hsz _; case hsz => ((try simp) <;> (try omega))) | (with_reducible refine Below.setCell ?_ ?hsz _; case hsz => ((try simp) <;> (try omega))) | (with_reducible refine below_step (by with_reducible assumption) ?hsz ?_; case hsz => ((try simp) <;> (try omega)))))⟩
    · have HE := Lib.hid (show ruleB r0 r1 r2 r3 r4 r5 F k = false by simp only [ruleB, a2, Bool.and_false, Bool.false_and])
      go_enter Try.func73, Try.ntmps73; go_wp2_with (first | (go_at_call 59; (with_reducible refine (within_any r0 1 20 _).mono ?_); rintro e w' ⟨rfl, rfl⟩) | (go_at_call 60; (with_reducible refine (isSpan_any r1 r2 _).mono ?_); rintro e w' ⟨rfl, rfl⟩) | (go_at_call 59; (with_reducible refine (within_any r3 1 3600 _).mono ?_); rintro e w' ⟨rfl, rfl⟩) | (go_at_call 59; (with_reducible refine (within_any r4 0 9 _).mono ?_); rintro e w' ⟨rfl, rfl⟩) | (go_at_call 59; (with_reducible refine (within_any r5 1 4 _).mono ?_); rintro e w' ⟨rfl, rfl⟩) | (go_at_call 103; (with_reducible refine (formOk_any NA k c F _ hk HR.out).mono ?_); rintro e w1 ⟨rfl, hb1⟩; obtain ⟨hc1, hf1⟩ := bcell hb1; (try simp only [World.size_drew] at hc1 hf1); have hz1 := hb1.size; (try simp at hz1); (try have q1_0 : w.heap.size < w1.heap.size := by omega); (try have q1_1 : w.heap.size + 1 < w1.heap.size := by omega); (try have q1_2 : w.heap.size + 2 < w1.heap.size := by omega); (try have q1_3 : w.heap.size + 3 < w1.heap.size := by omega); (try have q1_4 : w.heap.size + 4 < w1.heap.size := by omega); (try have q1_0_0 : w0.heap.size < w1.heap.size := by omega); (try have q1_0_1 : w0.heap.size + 1 < w1.heap.size := by omega); (try have q1_2_0 : w2.heap.size < w1.heap.size := by omega); (try have q1_2_1 : w2.heap.size + 1 < w1.heap.size := by omega); (try have q1_3_0 : w3.heap.size < w1.heap.size := by omega); (try have q1_3_1 : w3.heap.size + 1 < w1.heap.size := by omega); (try have q1_4_0 : w4.heap.size < w1.heap.size := by omega); (try have q1_4_1 : w4.heap.size + 1 < w1.heap.size := by omega); (try have q1_5_0 : w5.heap.size < w1.heap.size := by omega); (try have q1_5_1 : w5.heap.size + 1 < w1.heap.size := by omega); (try have q1_6_0 : w6.heap.size < w1.heap.size := by omega); (try have q1_6_1 : w6.heap.size + 1 < w1.heap.size := by omega); (try have u1_b : b < w1.heap.size := by omega); (try have u1_q : q < w1.heap.size := by omega); (try have u1_g : g < w1.heap.size := by omega); (try have u1_g1 : g1 < w1.heap.size := by omega); (try have u1_g2 : g2 < w1.heap.size := by omega); (try have u1_g3 : g3 < w1.heap.size := by omega); (try have u1_g4 : g4 < w1.heap.size := by omega); (try have u1_g5 : g5 < w1.heap.size := by omega))); go_ret; exact ⟨ret_bool HE.out.symm, by (repeat (first | with_reducible exact Below.refl _ _ | with_reducible refine Below.drew ?_ | (with_reducible refine Below.alloc ?_ ?hsz _; case hsz => ((try simp) <;> (try omega))) | (with_reducible refine Below.setCell ?_ ?hsz _; case hsz => ((try simp) <;> (try omega))) | (with_reducible refine below_step (by with_reducible assumption) ?hsz ?_; case hsz => ((try simp) <;> (try omega)))))⟩
  · have HE := Lib.hid (show ruleB r0 r1 r2 r3 r4 r5 F k = false by simp only [ruleB, a1, Bool.false_and])
    go_enter Try.func73, Try.ntmps73; go_wp2_with (first | (go_at_call 59; (with_reducible refine (within_any r0 1 20 _).mono ?_); rintro e w' ⟨rfl, rfl⟩) | (go_at_call 60; (with_reducible refine (isSpan_any r1 r2 _).mono ?_); rintro e w' ⟨rfl, rfl⟩) | (go_at_call 59; (with_reducible refine (within_any r3 1 3600 _).mono ?_); rintro e w' ⟨rfl, rfl⟩) | (go_at_call 59; (with_reducible refine (within_any r4 0 9 _).mono ?_); rintro e w' ⟨rfl, rfl⟩) | (go_at_call 59; (with_reducible refine (within_any r5 1 4 _).mono ?_); rintro e w' ⟨rfl, rfl⟩) | (go_at_call 103; (with_reducible refine (formOk_any NA k c F _ hk HR.out).mono ?_); rintro e w1 ⟨rfl, hb1⟩; obtain ⟨hc1, hf1⟩ := bcell hb1; (try simp only [World.size_drew] at hc1 hf1); have hz1 := hb1.size; (try simp at hz1); (try have q1_0 : w.heap.size < w1.heap.size := by omega); (try have q1_1 : w.heap.size + 1 < w1.heap.size := by omega); (try have q1_2 : w.heap.size + 2 < w1.heap.size := by omega); (try have q1_3 : w.heap.size + 3 < w1.heap.size := by omega); (try have q1_4 : w.heap.size + 4 < w1.heap.size := by omega); (try have q1_0_0 : w0.heap.size < w1.heap.size := by omega); (try have q1_0_1 : w0.heap.size + 1 < w1.heap.size := by omega); (try have q1_2_0 : w2.heap.size < w1.heap.size := by omega); (try have q1_2_1 : w2.heap.size + 1 < w1.heap.size := by omega); (try have q1_3_0 : w3.heap.size < w1.heap.size := by omega); (try have q1_3_1 : w3.heap.size + 1 < w1.heap.size := by omega); (try have q1_4_0 : w4.heap.size < w1.heap.size := by omega); (try have q1_4_1 : w4.heap.size + 1 < w1.heap.size := by omega); (try have q1_5_0 : w5.heap.size < w1.heap.size := by omega); (try have q1_5_1 : w5.heap.size + 1 < w1.heap.size := by omega); (try have q1_6_0 : w6.heap.size < w1.heap.size := by omega); (try have q1_6_1 : w6.heap.size + 1 < w1.heap.size := by omega); (try have u1_b : b < w1.heap.size := by omega); (try have u1_q : q < w1.heap.size := by omega); (try have u1_g : g < w1.heap.size := by omega); (try have u1_g1 : g1 < w1.heap.size := by omega); (try have u1_g2 : g2 < w1.heap.size := by omega); (try have u1_g3 : g3 < w1.heap.size := by omega); (try have u1_g4 : g4 < w1.heap.size := by omega); (try have u1_g5 : g5 < w1.heap.size := by omega))); go_ret; exact ⟨ret_bool HE.out.symm, by (repeat (first | with_reducible exact Below.refl _ _ | with_reducible refine Below.drew ?_ | (with_reducible refine Below.alloc ?_ ?hsz _; case hsz => ((try simp) <;> (try omega))) | (with_reducible refine Below.setCell ?_ ?hsz _; case hsz => ((try simp) <;> (try omega))) | (with_reducible refine below_step (by with_reducible assumption) ?hsz ?_; case hsz => ((try simp) <;> (try omega)))))⟩
set_option maxHeartbeats 2000000 in
theorem sruleOk_any (r0 r1 r2 r3 r4 r5 : Int) (NA : Option Addr) (k c : Nat) (F : Nat → Nat → Int) (w : World) (hk : k ≤ 1048576) (hr : Recs w 6 NA k F) :
    Calls Try.prog 67 #[.agg #[.int .i64 r0, .int .i64 r1, .int .i64 r2, .int .i64 r3, .int .i64 r4, .int .i64 r5, .slice NA k c]] w fun e w' => e = .returned (.bool (ruleB r0 r1 r2 r3 r4 r5 F k)) ∧ Below w.heap.size w w' := by
  have HR := Lib.hid (hr.alloc (.cells #[.int .i64 r0, .int .i64 r1, .int .i64 r2, .int .i64 r3, .int .i64 r4, .int .i64 r5, .slice NA k c] 119))
  clear hr
  rcases Bool.eq_false_or_eq_true (inB r0 1 20) with a1 | a1
  · rcases Bool.eq_false_or_eq_true (decide (0 ≤ r1)) with b1 | b1
    · have b1' := of_decide_eq_true b1
      rcases Bool.eq_false_or_eq_true (decide (r1 < r2)) with b2 | b2
      · have b2' := of_decide_eq_true b2
        rcases Bool.eq_false_or_eq_true (decide (r2 ≤ 3600)) with b3 | b3
        · have b3' := of_decide_eq_true b3
          have a2 : spanB r1 r2 = true := spanB_true.2 ⟨b1', b2', b3'⟩
          rcases Bool.eq_false_or_eq_true (inB r3 1 3600) with a3 | a3
          · rcases Bool.eq_false_or_eq_true (inB r4 0 9) with a4 | a4
            · rcases Bool.eq_false_or_eq_true (inB r5 1 4) with a5 | a5
              · have HE := Lib.hid (show ruleB r0 r1 r2 r3 r4 r5 F k = formB F k by simp only [ruleB, a1, a2, a3, a4, a5, Bool.true_and])
                go_enter Try.func67, Try.ntmps67; go_wp2_with (first | (go_at_call 55; (with_reducible refine (l01In_any r0 1 20 _).mono ?_); rintro e w' ⟨rfl, rfl⟩) | (go_at_call 55; (with_reducible refine (l01In_any r3 1 3600 _).mono ?_); rintro e w' ⟨rfl, rfl⟩) | (go_at_call 55; (with_reducible refine (l01In_any r4 0 9 _).mono ?_); rintro e w' ⟨rfl, rfl⟩) | (go_at_call 55; (with_reducible refine (l01In_any r5 1 4 _).mono ?_); rintro e w' ⟨rfl, rfl⟩) | (go_at_call 98; (with_reducible refine (sformOk_any NA k c F _ hk HR.out).mono ?_); rintro e w1 ⟨rfl, hb1⟩; obtain ⟨hc1, hf1⟩ := bcell hb1; (try simp only [World.size_drew] at hc1 hf1); have hz1 := hb1.size; (try simp at hz1); (try have q1_0 : w.heap.size < w1.heap.size := by omega); (try have q1_1 : w.heap.size + 1 < w1.heap.size := by omega); (try have q1_2 : w.heap.size + 2 < w1.heap.size := by omega); (try have q1_3 : w.heap.size + 3 < w1.heap.size := by omega); (try have q1_4 : w.heap.size + 4 < w1.heap.size := by omega); (try have q1_0_0 : w0.heap.size < w1.heap.size := by omega); (try have q1_0_1 : w0.heap.size + 1 < w1.heap.size := by omega); (try have q1_2_0 : w2.heap.size < w1.heap.size := by omega); (try have q1_2_1 : w2.heap.size + 1 < w1.heap.size := by omega); (try have q1_3_0 : w3.heap.size < w1.heap.size := by omega); (try have q1_3_1 : w3.heap.size + 1 < w1.heap.size := by omega); (try have q1_4_0 : w4.heap.size < w1.heap.size := by omega); (try have q1_4_1 : w4.heap.size + 1 < w1.heap.size := by omega); (try have q1_5_0 : w5.heap.size < w1.heap.size := by omega); (try have q1_5_1 : w5.heap.size + 1 < w1.heap.size := by omega); (try have q1_6_0 : w6.heap.size < w1.heap.size := by omega); (try have q1_6_1 : w6.heap.size + 1 < w1.heap.size := by omega); (try have u1_b : b < w1.heap.size := by omega); (try have u1_q : q < w1.heap.size := by omega); (try have u1_g : g < w1.heap.size := by omega); (try have u1_g1 : g1 < w1.heap.size := by omega); (try have u1_g2 : g2 < w1.heap.size := by omega); (try have u1_g3 : g3 < w1.heap.size := by omega); (try have u1_g4 : g4 < w1.heap.size := by omega); (try have u1_g5 : g5 < w1.heap.size := by omega))); go_ret; exact ⟨ret_bool HE.out.symm, by (repeat (first | with_reducible exact Below.refl _ _ | with_reducible refine Below.drew ?_ | (with_reducible refine Below.alloc ?_ ?hsz _; case hsz => ((try simp) <;> (try omega))) | (with_reducible refine Below.setCell ?_ ?hsz _; case hsz => ((try simp) <;> (try omega))) | (with_reducible refine below_step (by with_reducible assumption) ?hsz ?_; case hsz => ((try simp) <;> (try omega)))))⟩
              · have HE := Lib.hid (show ruleB r0 r1 r2 r3 r4 r5 F k = false by simp only [ruleB, a5, Bool.and_false, Bool.false_and])
                go_enter Try.func67, Try.ntmps67; go_wp2_with (first | (go_at_call 55; (with_reducible refine (l01In_any r0 1 20 _).mono ?_); rintro e w' ⟨rfl, rfl⟩) | (go_at_call 55; (with_reducible refine (l01In_any r3 1 3600 _).mono ?_); rintro e w' ⟨rfl, rfl⟩) | (go_at_call 55; (with_reducible refine (l01In_any r4 0 9 _).mono ?_); rintro e w' ⟨rfl, rfl⟩) | (go_at_call 55; (with_reducible refine (l01In_any r5 1 4 _).mono ?_); rintro e w' ⟨rfl, rfl⟩) | (go_at_call 98; (with_reducible refine (sformOk_any NA k c F _ hk HR.out).mono ?_); rintro e w1 ⟨rfl, hb1⟩; obtain ⟨hc1, hf1⟩ := bcell hb1; (try simp only [World.size_drew] at hc1 hf1); have hz1 := hb1.size; (try simp at hz1); (try have q1_0 : w.heap.size < w1.heap.size := by omega); (try have q1_1 : w.heap.size + 1 < w1.heap.size := by omega); (try have q1_2 : w.heap.size + 2 < w1.heap.size := by omega); (try have q1_3 : w.heap.size + 3 < w1.heap.size := by omega); (try have q1_4 : w.heap.size + 4 < w1.heap.size := by omega); (try have q1_0_0 : w0.heap.size < w1.heap.size := by omega); (try have q1_0_1 : w0.heap.size + 1 < w1.heap.size := by omega); (try have q1_2_0 : w2.heap.size < w1.heap.size := by omega); (try have q1_2_1 : w2.heap.size + 1 < w1.heap.size := by omega); (try have q1_3_0 : w3.heap.size < w1.heap.size := by omega); (try have q1_3_1 : w3.heap.size + 1 < w1.heap.size := by omega); (try have q1_4_0 : w4.heap.size < w1.heap.size := by omega); (try have q1_4_1 : w4.heap.size + 1 < w1.heap.size := by omega); (try have q1_5_0 : w5.heap.size < w1.heap.size := by omega); (try have q1_5_1 : w5.heap.size + 1 < w1.heap.size := by omega); (try have q1_6_0 : w6.heap.size < w1.heap.size := by omega); (try have q1_6_1 : w6.heap.size + 1 < w1.heap.size := by omega); (try have u1_b : b < w1.heap.size := by omega); (try have u1_q : q < w1.heap.size := by omega); (try have u1_g : g < w1.heap.size := by omega); (try have u1_g1 : g1 < w1.heap.size := by omega); (try have u1_g2 : g2 < w1.heap.size := by omega); (try have u1_g3 : g3 < w1.heap.size := by omega); (try have u1_g4 : g4 < w1.heap.size := by omega); (try have u1_g5 : g5 < w1.heap.size := by omega))); go_ret; exact ⟨ret_bool HE.out.symm, by (repeat (first | with_reducible exact Below.refl _ _ | with_reducible refine Below.drew ?_ | (with_reducible refine Below.alloc ?_ ?hsz _; case hsz => ((try simp) <;> (try omega))) | (with_reducible refine Below.setCell ?_ ?hsz _; case hsz => ((try simp) <;> (try omega))) | (with_reducible refine below_step (by with_reducible assumption) ?hsz ?_; case hsz => ((try simp) <;> (try omega)))))⟩
            · have HE := Lib.hid (show ruleB r0 r1 r2 r3 r4 r5 F k = false by simp only [ruleB, a4, Bool.and_false, Bool.false_and])
              go_enter Try.func67, Try.ntmps67; go_wp2_with (first | (go_at_call 55; (with_reducible refine (l01In_any r0 1 20 _).mono ?_); rintro e w' ⟨rfl, rfl⟩) | (go_at_call 55; (with_reducible refine (l01In_any r3 1 3600 _).mono ?_); rintro e w' ⟨rfl, rfl⟩) | (go_at_call 55; (with_reducible refine (l01In_any r4 0 9 _).mono ?_); rintro e w' ⟨rfl, rfl⟩) | (go_at_call 55; (with_reducible refine (l01In_any r5 1 4 _).mono ?_); rintro e w' ⟨rfl, rfl⟩) | (go_at_call 98; (with_reducible refine (sformOk_any NA k c F _ hk HR.out).mono ?_); rintro e w1 ⟨rfl, hb1⟩; obtain ⟨hc1, hf1⟩ := bcell hb1; (try simp only [World.size_drew] at hc1 hf1); have hz1 := hb1.size; (try simp at hz1); (try have q1_0 : w.heap.size < w1.heap.size := by omega); (try have q1_1 : w.heap.size + 1 < w1.heap.size := by omega); (try have q1_2 : w.heap.size + 2 < w1.heap.size := by omega); (try have q1_3 : w.heap.size + 3 < w1.heap.size := by omega); (try have q1_4 : w.heap.size + 4 < w1.heap.size := by omega); (try have q1_0_0 : w0.heap.size < w1.heap.size := by omega); (try have q1_0_1 : w0.heap.size + 1 < w1.heap.size := by omega); (try have q1_2_0 : w2.heap.size < w1.heap.size := by omega); (try have q1_2_1 : w2.heap.size + 1 < w1.heap.size := by omega); (try have q1_3_0 : w3.heap.size < w1.heap.size := by omega); (try have q1_3_1 : w3.heap.size + 1 < w1.heap.size := by omega); (try have q1_4_0 : w4.heap.size < w1.heap.size := by omega); (try have q1_4_1 : w4.heap.size + 1 < w1.heap.size := by omega); (try have q1_5_0 : w5.heap.size < w1.heap.size := by omega); (try have q1_5_1 : w5.heap.size + 1 < w1.heap.size := by omega); (try have q1_6_0 : w6.heap.size < w1.heap.size := by omega); (try have q1_6_1 : w6.heap.size + 1 < w1.heap.size := by omega); (try have u1_b : b < w1.heap.size := by omega); (try have u1_q : q < w1.heap.size := by omega); (try have u1_g : g < w1.heap.size := by omega); (try have u1_g1 : g1 < w1.heap.size := by omega); (try have u1_g2 : g2 < w1.heap.size := by omega); (try have u1_g3 : g3 < w1.heap.size := by omega); (try have u1_g4 : g4 < w1.heap.size := by omega); (try have u1_g5 : g5 < w1.heap.size := by omega))); go_ret; exact ⟨ret_bool HE.out.symm, by (repeat (first | with_reducible exact Below.refl _ _ | with_reducible refine Below.drew ?_ | (with_reducible refine Below.alloc ?_ ?hsz _; case hsz => ((try simp) <;> (try omega))) | (with_reducible refine Below.setCell ?_ ?hsz _; case hsz => ((try simp) <;> (try omega))) | (with_reducible refine below_step (by with_reducible assumption) ?hsz ?_; case hsz => ((try simp) <;> (try omega)))))⟩
          · have HE := Lib.hid (show ruleB r0 r1 r2 r3 r4 r5 F k = false by simp only [ruleB, a3, Bool.and_false, Bool.false_and])
            go_enter Try.func67, Try.ntmps67; go_wp2_with (first | (go_at_call 55; (with_reducible refine (l01In_any r0 1 20 _).mono ?_); rintro e w' ⟨rfl, rfl⟩) | (go_at_call 55; (with_reducible refine (l01In_any r3 1 3600 _).mono ?_); rintro e w' ⟨rfl, rfl⟩) | (go_at_call 55; (with_reducible refine (l01In_any r4 0 9 _).mono ?_); rintro e w' ⟨rfl, rfl⟩) | (go_at_call 55; (with_reducible refine (l01In_any r5 1 4 _).mono ?_); rintro e w' ⟨rfl, rfl⟩) | (go_at_call 98; (with_reducible refine (sformOk_any NA k c F _ hk HR.out).mono ?_); rintro e w1 ⟨rfl, hb1⟩; obtain ⟨hc1, hf1⟩ := bcell hb1; (try simp only [World.size_drew] at hc1 hf1); have hz1 := hb1.size; (try simp at hz1); (try have q1_0 : w.heap.size < w1.heap.size := by omega); (try have q1_1 : w.heap.size + 1 < w1.heap.size := by omega); (try have q1_2 : w.heap.size + 2 < w1.heap.size := by omega); (try have q1_3 : w.heap.size + 3 < w1.heap.size := by omega); (try have q1_4 : w.heap.size + 4 < w1.heap.size := by omega); (try have q1_0_0 : w0.heap.size < w1.heap.size := by omega); (try have q1_0_1 : w0.heap.size + 1 < w1.heap.size := by omega); (try have q1_2_0 : w2.heap.size < w1.heap.size := by omega); (try have q1_2_1 : w2.heap.size + 1 < w1.heap.size := by omega); (try have q1_3_0 : w3.heap.size < w1.heap.size := by omega); (try have q1_3_1 : w3.heap.size + 1 < w1.heap.size := by omega); (try have q1_4_0 : w4.heap.size < w1.heap.size := by omega); (try have q1_4_1 : w4.heap.size + 1 < w1.heap.size := by omega); (try have q1_5_0 : w5.heap.size < w1.heap.size := by omega); (try have q1_5_1 : w5.heap.size + 1 < w1.heap.size := by omega); (try have q1_6_0 : w6.heap.size < w1.heap.size := by omega); (try have q1_6_1 : w6.heap.size + 1 < w1.heap.size := by omega); (try have u1_b : b < w1.heap.size := by omega); (try have u1_q : q < w1.heap.size := by omega); (try have u1_g : g < w1.heap.size := by omega); (try have u1_g1 : g1 < w1.heap.size := by omega); (try have u1_g2 : g2 < w1.heap.size := by omega); (try have u1_g3 : g3 < w1.heap.size := by omega); (try have u1_g4 : g4 < w1.heap.size := by omega); (try have u1_g5 : g5 < w1.heap.size := by omega))); go_ret; exact ⟨ret_bool HE.out.symm, by (repeat (first | with_reducible exact Below.refl _ _ | with_reducible refine Below.drew ?_ | (with_reducible refine Below.alloc ?_ ?hsz _; case hsz => ((try simp) <;> (try omega))) | (with_reducible refine Below.setCell ?_ ?hsz _; case hsz => ((try simp) <;> (try omega))) | (with_reducible refine below_step (by with_reducible assumption) ?hsz ?_; case hsz => ((try simp) <;> (try omega)))))⟩
        · have b3' := of_decide_eq_false b3
          have a2 : spanB r1 r2 = false := (by rw [Bool.eq_false_iff, ne_eq, spanB_true]; omega); have HE := Lib.hid (show ruleB r0 r1 r2 r3 r4 r5 F k = false by simp only [ruleB, a2, Bool.and_false, Bool.false_and])
          go_enter Try.func67, Try.ntmps67; go_wp2_with (first | (go_at_call 55; (with_reducible refine (l01In_any r0 1 20 _).mono ?_); rintro e w' ⟨rfl, rfl⟩) | (go_at_call 55; (with_reducible refine (l01In_any r3 1 3600 _).mono ?_); rintro e w' ⟨rfl, rfl⟩) | (go_at_call 55; (with_reducible refine (l01In_any r4 0 9 _).mono ?_); rintro e w' ⟨rfl, rfl⟩) | (go_at_call 55; (with_reducible refine (l01In_any r5 1 4 _).mono ?_); rintro e w' ⟨rfl, rfl⟩) | (go_at_call 98; (with_reducible refine (sformOk_any NA k c F _ hk HR.out).mono ?_); rintro e w1 ⟨rfl, hb1⟩; obtain ⟨hc1, hf1⟩ := bcell hb1; (try simp only [World.size_drew] at hc1 hf1); have hz1 := hb1.size; (try simp at hz1); (try have q1_0 : w.heap.size < w1.heap.size := by omega); (try have q1_1 : w.heap.size + 1 < w1.heap.size := by omega); (try have q1_2 : w.heap.size + 2 < w1.heap.size := by omega); (try have q1_3 : w.heap.size + 3 < w1.heap.size := by omega); (try have q1_4 : w.heap.size + 4 < w1.heap.size := by omega); (try have q1_0_0 : w0.heap.size < w1.heap.size := by omega); (try have q1_0_1 : w0.heap.size + 1 < w1.heap.size := by omega); (try have q1_2_0 : w2.heap.size < w1.heap.size := by omega); (try have q1_2_1 : w2.heap.size + 1 < w1.heap.size := by omega); (try have q1_3_0 : w3.heap.size < w1.heap.size := by omega); (try have q1_3_1 : w3.heap.size + 1 < w1.heap.size := by omega); (try have q1_4_0 : w4.heap.size < w1.heap.size := by omega); (try have q1_4_1 : w4.heap.size + 1 < w1.heap.size := by omega); (try have q1_5_0 : w5.heap.size < w1.heap.size := by omega); (try have q1_5_1 : w5.heap.size + 1 < w1.heap.size := by omega); (try have q1_6_0 : w6.heap.size < w1.heap.size := by omega); (try have q1_6_1 : w6.heap.size + 1 < w1.heap.size := by omega); (try have u1_b : b < w1.heap.size := by omega); (try have u1_q : q < w1.heap.size := by omega); (try have u1_g : g < w1.heap.size := by omega); (try have u1_g1 : g1 < w1.heap.size := by omega); (try have u1_g2 : g2 < w1.heap.size := by omega); (try have u1_g3 : g3 < w1.heap.size := by omega); (try have u1_g4 : g4 < w1.heap.size := by omega); (try have u1_g5 : g5 < w1.heap.size := by omega))); go_ret; exact ⟨ret_bool HE.out.symm, by (repeat (first | with_reducible exact Below.refl _ _ | with_reducible refine Below.drew ?_ | (with_reducible refine Below.alloc ?_ ?hsz _; case hsz => ((try simp) <;> (try omega))) | (with_reducible refine Below.setCell ?_ ?hsz _; case hsz => ((try simp) <;> (try omega))) | (with_reducible refine below_step (by with_reducible assumption) ?hsz ?_; case hsz => ((try simp) <;> (try omega)))))⟩
      · have b2' := of_decide_eq_false b2
        have a2 : spanB r1 r2 = false := (by rw [Bool.eq_false_iff, ne_eq, spanB_true]; omega); have HE := Lib.hid (show ruleB r0 r1 r2 r3 r4 r5 F k = false by simp only [ruleB, a2, Bool.and_false, Bool.false_and])
        go_enter Try.func67, Try.ntmps67; go_wp2_with (first | (go_at_call 55; (with_reducible refine (l01In_any r0 1 20 _).mono ?_); rintro e w' ⟨rfl, rfl⟩) | (go_at_call 55; (with_reducible refine (l01In_any r3 1 3600 _).mono ?_); rintro e w' ⟨rfl, rfl⟩) | (go_at_call 55; (with_reducible refine (l01In_any r4 0 9 _).mono ?_); rintro e w' ⟨rfl, rfl⟩) | (go_at_call 55; (with_reducible refine (l01In_any r5 1 4 _).mono ?_); rintro e w' ⟨rfl, rfl⟩) | (go_at_call 98; (with_reducible refine (sformOk_any NA k c F _ hk HR.out).mono ?_); rintro e w1 ⟨rfl, hb1⟩; obtain ⟨hc1, hf1⟩ := bcell hb1; (try simp only [World.size_drew] at hc1 hf1); have hz1 := hb1.size; (try simp at hz1); (try have q1_0 : w.heap.size < w1.heap.size := by omega); (try have q1_1 : w.heap.size + 1 < w1.heap.size := by omega); (try have q1_2 : w.heap.size + 2 < w1.heap.size := by omega); (try have q1_3 : w.heap.size + 3 < w1.heap.size := by omega); (try have q1_4 : w.heap.size + 4 < w1.heap.size := by omega); (try have q1_0_0 : w0.heap.size < w1.heap.size := by omega); (try have q1_0_1 : w0.heap.size + 1 < w1.heap.size := by omega); (try have q1_2_0 : w2.heap.size < w1.heap.size := by omega); (try have q1_2_1 : w2.heap.size + 1 < w1.heap.size := by omega); (try have q1_3_0 : w3.heap.size < w1.heap.size := by omega); (try have q1_3_1 : w3.heap.size + 1 < w1.heap.size := by omega); (try have q1_4_0 : w4.heap.size < w1.heap.size := by omega); (try have q1_4_1 : w4.heap.size + 1 < w1.heap.size := by omega); (try have q1_5_0 : w5.heap.size < w1.heap.size := by omega); (try have q1_5_1 : w5.heap.size + 1 < w1.heap.size := by omega); (try have q1_6_0 : w6.heap.size < w1.heap.size := by omega); (try have q1_6_1 : w6.heap.size + 1 < w1.heap.size := by omega); (try have u1_b : b < w1.heap.size := by omega); (try have u1_q : q < w1.heap.size := by omega); (try have u1_g : g < w1.heap.size := by omega); (try have u1_g1 : g1 < w1.heap.size := by omega); (try have u1_g2 : g2 < w1.heap.size := by omega); (try have u1_g3 : g3 < w1.heap.size := by omega); (try have u1_g4 : g4 < w1.heap.size := by omega); (try have u1_g5 : g5 < w1.heap.size := by omega))); go_ret; exact ⟨ret_bool HE.out.symm, by (repeat (first | with_reducible exact Below.refl _ _ | with_reducible refine Below.drew ?_ | (with_reducible refine Below.alloc ?_ ?hsz _; case hsz => ((try simp) <;> (try omega))) | (with_reducible refine Below.setCell ?_ ?hsz _; case hsz => ((try simp) <;> (try omega))) | (with_reducible refine below_step (by with_reducible assumption) ?hsz ?_; case hsz => ((try simp) <;> (try omega)))))⟩
    · have b1' := of_decide_eq_false b1
      have a2 : spanB r1 r2 = false := (by rw [Bool.eq_false_iff, ne_eq, spanB_true]; omega); have HE := Lib.hid (show ruleB r0 r1 r2 r3 r4 r5 F k = false by simp only [ruleB, a2, Bool.and_false, Bool.false_and])
      go_enter Try.func67, Try.ntmps67; go_wp2_with (first | (go_at_call 55; (with_reducible refine (l01In_any r0 1 20 _).mono ?_); rintro e w' ⟨rfl, rfl⟩) | (go_at_call 55; (with_reducible refine (l01In_any r3 1 3600 _).mono ?_); rintro e w' ⟨rfl, rfl⟩) | (go_at_call 55; (with_reducible refine (l01In_any r4 0 9 _).mono ?_); rintro e w' ⟨rfl, rfl⟩) | (go_at_call 55; (with_reducible refine (l01In_any r5 1 4 _).mono ?_); rintro e w' ⟨rfl, rfl⟩) | (go_at_call 98; (with_reducible refine (sformOk_any NA k c F _ hk HR.out).mono ?_); rintro e w1 ⟨rfl, hb1⟩; obtain ⟨hc1, hf1⟩ := bcell hb1; (try simp only [World.size_drew] at hc1 hf1); have hz1 := hb1.size; (try simp at hz1); (try have q1_0 : w.heap.size < w1.heap.size := by omega); (try have q1_1 : w.heap.size + 1 < w1.heap.size := by omega); (try have q1_2 : w.heap.size + 2 < w1.heap.size := by omega); (try have q1_3 : w.heap.size + 3 < w1.heap.size := by omega); (try have q1_4 : w.heap.size + 4 < w1.heap.size := by omega); (try have q1_0_0 : w0.heap.size < w1.heap.size := by omega); (try have q1_0_1 : w0.heap.size + 1 < w1.heap.size := by omega); (try have q1_2_0 : w2.heap.size < w1.heap.size := by omega); (try have q1_2_1 : w2.heap.size + 1 < w1.heap.size := by omega); (try have q1_3_0 : w3.heap.size < w1.heap.size := by omega); (try have q1_3_1 : w3.heap.size + 1 < w1.heap.size := by omega); (try have q1_4_0 : w4.heap.size < w1.heap.size := by omega); (try have q1_4_1 : w4.heap.size + 1 < w1.heap.size := by omega); (try have q1_5_0 : w5.heap.size < w1.heap.size := by omega); (try have q1_5_1 : w5.heap.size + 1 < w1.heap.size := by omega); (try have q1_6_0 : w6.heap.size < w1.heap.size := by omega); (try have q1_6_1 : w6.heap.size + 1 < w1.heap.size := by omega); (try have u1_b : b < w1.heap.size := by omega); (try have u1_q : q < w1.heap.size := by omega); (try have u1_g : g < w1.heap.size := by omega); (try have u1_g1 : g1 < w1.heap.size := by omega); (try have u1_g2 : g2 < w1.heap.size := by omega); (try have u1_g3 : g3 < w1.heap.size := by omega); (try have u1_g4 : g4 < w1.heap.size := by omega); (try have u1_g5 : g5 < w1.heap.size := by omega))); go_ret; exact ⟨ret_bool HE.out.symm, by (repeat (first | with_reducible exact Below.refl _ _ | with_reducible refine Below.drew ?_ | (with_reducible refine Below.alloc ?_ ?hsz _; case hsz => ((try simp) <;> (try omega))) | (with_reducible refine Below.setCell ?_ ?hsz _; case hsz => ((try simp) <;> (try omega))) | (with_reducible refine below_step (by with_reducible assumption) ?hsz ?_; case hsz => ((try simp) <;> (try omega)))))⟩
  · have HE := Lib.hid (show ruleB r0 r1 r2 r3 r4 r5 F k = false by simp only [ruleB, a1, Bool.false_and])
    go_enter Try.func67, Try.ntmps67; go_wp2_with (first | (go_at_call 55; (with_reducible refine (l01In_any r0 1 20 _).mono ?_); rintro e w' ⟨rfl, rfl⟩) | (go_at_call 55; (with_reducible refine (l01In_any r3 1 3600 _).mono ?_); rintro e w' ⟨rfl, rfl⟩) | (go_at_call 55; (with_reducible refine (l01In_any r4 0 9 _).mono ?_); rintro e w' ⟨rfl, rfl⟩) | (go_at_call 55; (with_reducible refine (l01In_any r5 1 4 _).mono ?_); rintro e w' ⟨rfl, rfl⟩) | (go_at_call 98; (with_reducible refine (sformOk_any NA k c F _ hk HR.out).mono ?_); rintro e w1 ⟨rfl, hb1⟩; obtain ⟨hc1, hf1⟩ := bcell hb1; (try simp only [World.size_drew] at hc1 hf1); have hz1 := hb1.size; (try simp at hz1); (try have q1_0 : w.heap.size < w1.heap.size := by omega); (try have q1_1 : w.heap.size + 1 < w1.heap.size := by omega); (try have q1_2 : w.heap.size + 2 < w1.heap.size := by omega); (try have q1_3 : w.heap.size + 3 < w1.heap.size := by omega); (try have q1_4 : w.heap.size + 4 < w1.heap.size := by omega); (try have q1_0_0 : w0.heap.size < w1.heap.size := by omega); (try have q1_0_1 : w0.heap.size + 1 < w1.heap.size := by omega); (try have q1_2_0 : w2.heap.size < w1.heap.size := by omega); (try have q1_2_1 : w2.heap.size + 1 < w1.heap.size := by omega); (try have q1_3_0 : w3.heap.size < w1.heap.size := by omega); (try have q1_3_1 : w3.heap.size + 1 < w1.heap.size := by omega); (try have q1_4_0 : w4.heap.size < w1.heap.size := by omega); (try have q1_4_1 : w4.heap.size + 1 < w1.heap.size := by omega); (try have q1_5_0 : w5.heap.size < w1.heap.size := by omega); (try have q1_5_1 : w5.heap.size + 1 < w1.heap.size := by omega); (try have q1_6_0 : w6.heap.size < w1.heap.size := by omega); (try have q1_6_1 : w6.heap.size + 1 < w1.heap.size := by omega); (try have u1_b : b < w1.heap.size := by omega); (try have u1_q : q < w1.heap.size := by omega); (try have u1_g : g < w1.heap.size := by omega); (try have u1_g1 : g1 < w1.heap.size := by omega); (try have u1_g2 : g2 < w1.heap.size := by omega); (try have u1_g3 : g3 < w1.heap.size := by omega); (try have u1_g4 : g4 < w1.heap.size := by omega); (try have u1_g5 : g5 < w1.heap.size := by omega))); go_ret; exact ⟨ret_bool HE.out.symm, by (repeat (first | with_reducible exact Below.refl _ _ | with_reducible refine Below.drew ?_ | (with_reducible refine Below.alloc ?_ ?hsz _; case hsz => ((try simp) <;> (try omega))) | (with_reducible refine Below.setCell ?_ ?hsz _; case hsz => ((try simp) <;> (try omega))) | (with_reducible refine below_step (by with_reducible assumption) ?hsz ?_; case hsz => ((try simp) <;> (try omega)))))⟩
end Go.Proofs.Ytgfcmeiffhffaaa
namespace Go.Proofs.Ytgfcmeiffhffaaa
open Go.RowKit

def ruleV (R : Nat → Nat → Int) (NA : Nat → Option Addr) (Nn Nc : Nat → Nat) (i : Nat) : Nat → Value
  | 0 => .int .i64 (R i 0)
  | 1 => .int .i64 (R i 1)
  | 2 => .int .i64 (R i 2)
  | 3 => .int .i64 (R i 3)
  | 4 => .int .i64 (R i 4)
  | 5 => .int .i64 (R i 5)
  | _ => .slice (NA i) (Nn i) (Nc i)
/-- The first n rules from A on: six numbers and a row of nodes each. -/
structure Rules (w : World) (A : Option Addr) (n : Nat) (R : Nat → Nat → Int) (NA : Nat → Option Addr) (Nn Nc : Nat → Nat) (NF : Nat → Nat → Nat → Int) : Prop where
  row : RecV w 7 A n (ruleV R NA Nn Nc)
  nodes : ∀ i, i < n → Recs w 6 (NA i) (Nn i) (NF i)
  small : ∀ i, i < n → Nn i ≤ 1048576
section
variable {w w' : World} {A : Option Addr} {n : Nat} {R : Nat → Nat → Int} {NA : Nat → Option Addr} {Nn Nc : Nat → Nat} {NF : Nat → Nat → Nat → Int}
theorem Rules.kept (h : Rules w A n R NA Nn Nc NF) (hb : Below w.heap.size w w') : Rules w' A n R NA Nn Nc NF := ⟨h.row.kept hb, fun i hi => (h.nodes i hi).kept hb, h.small⟩
theorem Rules.alloc (h : Rules w A n R NA Nn Nc NF) (o : Obj) : Rules (w.alloc o) A n R NA Nn Nc NF := h.kept ((Below.refl _ _).alloc (Nat.le_refl _) o)
theorem Rules.drew (h : Rules w A n R NA Nn Nc NF) : Rules w.drew A n R NA Nn Nc NF := ⟨h.row.drew, fun i hi => (h.nodes i hi).drew, h.small⟩
theorem Rules.at7 (h : Rules w A n R NA Nn Nc NF) {i : Nat} (hi : i < n) : ∃ b off, A = some ⟨b, off, none⟩ ∧ b < w.heap.size ∧ w.cell? ⟨b, off + i * 7, none⟩ = some (.int .i64 (R i 0)) ∧ w.cell? ⟨b, off + i * 7 + 1, none⟩ = some (.int .i64 (R i 1)) ∧ w.cell? ⟨b, off + i * 7 + 2, none⟩ = some (.int .i64 (R i 2)) ∧ w.cell? ⟨b, off + i * 7 + 3, none⟩ = some (.int .i64 (R i 3)) ∧ w.cell? ⟨b, off + i * 7 + 4, none⟩ = some (.int .i64 (R i 4)) ∧ w.cell? ⟨b, off + i * 7 + 5, none⟩ = some (.int .i64 (R i 5)) ∧ w.cell? ⟨b, off + i * 7 + 6, none⟩ = some (.slice (NA i) (Nn i) (Nc i)) := by
  rcases h.row with h | ⟨b, off, e, hb, hc⟩
  · omega
  · exact ⟨b, off, e, hb, hc i hi 0 (by omega), hc i hi 1 (by omega), hc i hi 2 (by omega), hc i hi 3 (by omega), hc i hi 4 (by omega), hc i hi 5 (by omega), hc i hi 6 (by omega)⟩
end
def ruleAt (R : Nat → Nat → Int) (Nn : Nat → Nat) (NF : Nat → Nat → Nat → Int) (i : Nat) : Bool := ruleB (R i 0) (R i 1) (R i 2) (R i 3) (R i 4) (R i 5) (NF i) (Nn i)
/-- Do rules i and k clash? -/
def clash (R : Nat → Nat → Int) (i k : Nat) : Bool := (R k 0 == R i 0) && ((R k 4 == R i 4) && (decide (R k 1 < R i 2) && decide (R i 1 < R k 2)))
def bookAt (R : Nat → Nat → Int) (Nn : Nat → Nat) (NF : Nat → Nat → Nat → Int) (i : Nat) : Bool := ruleAt R Nn NF i && allB (fun k => !clash R i k) i
def bookB (R : Nat → Nat → Int) (Nn : Nat → Nat) (NF : Nat → Nat → Nat → Int) (n : Nat) : Bool := allB (bookAt R Nn NF) n && decide (n ≤ 20)
theorem bookB_bad {R : Nat → Nat → Int} {Nn : Nat → Nat} {NF : Nat → Nat → Nat → Int} {n m : Nat} (hm : m < n) (h : bookAt R Nn NF m = false) : bookB R Nn NF n = false := by simp [bookB, allB_false hm h]
theorem bookAt_clash {R : Nat → Nat → Int} {Nn : Nat → Nat} {NF : Nat → Nat → Nat → Int} {m k : Nat} (hk : k < m) (h : clash R m k = true) : bookAt R Nn NF m = false := by
  have : allB (fun k => !clash R m k) m = false := allB_false hk (by simp [h])
  simp [bookAt, this]
theorem bookAt_good {R : Nat → Nat → Int} {Nn : Nat → Nat} {NF : Nat → Nat → Nat → Int} {m : Nat} (h : ruleAt R Nn NF m = true) (hc : ∀ k, k < m → clash R m k = false) : bookAt R Nn NF m = true := by
  have : allB (fun k => !clash R m k) m = true := allB_iff.2 fun k hk => by simp [hc k hk]
  simp [bookAt, h, this]
set_option maxRecDepth 100000 in
set_option maxHeartbeats 8000000 in
theorem bookOk_any (A : Option Addr) (n cap : Nat) (R : Nat → Nat → Int) (NA : Nat → Option Addr) (Nn Nc : Nat → Nat) (NF : Nat → Nat → Nat → Int) (w : World) (hn : n ≤ 1048576) (hcap : n ≤ cap) (hr : Rules w A n R NA Nn Nc NF) :
    Calls Try.prog 42 #[.agg #[.slice A n cap]] w fun e w' => e = .returned (.bool (bookB R Nn NF n)) ∧ Below w.heap.size w w' := by
  have HR := Lib.hid hr
  clear hr
  go_enter Try.func42, Try.ntmps42
  go_wp2_with fail
  go_loopw [10] (fun i wr => ∃ m : Nat, m ≤ n ∧ i = .int .i64 m ∧ Below w.heap.size w wr ∧ Box wr w.heap.size 50 #[.slice A n cap] ∧ Hid (∀ i, i < m → bookAt R Nn NF i = true)) (fun i _ => n - (intOf i).toNat)
  case atStart => exact ⟨0, Nat.zero_le _, rfl, by (repeat (first | with_reducible exact Below.refl _ _ | with_reducible refine Below.drew ?_ | (with_reducible refine Below.alloc ?_ ?hsz _; case hsz => ((try simp) <;> (try omega))) | (with_reducible refine Below.setCell ?_ ?hsz _; case hsz => ((try simp) <;> (try omega))) | (with_reducible refine below_step (by with_reducible assumption) ?hsz ?_; case hsz => ((try simp) <;> (try omega))))), by (repeat (first | with_reducible assumption | with_reducible exact Box.made _ _ _ | (with_reducible refine Box.made_at ?hg; case hg => (simp; done)) | with_reducible refine Box.drew ?_ | with_reducible refine Box.alloc ?_ _ | (with_reducible refine Box.put2 (a := .int .i64 0) (b := .int .i64 0) ?_ _ _) | (with_reducible refine Box.far ?_ ?hg _; case hg => ((try simp) <;> (try omega))) | with_reducible refine Box.kept ?_ (by with_reducible assumption))), fun i hi => by omega⟩
  case round =>
    obtain ⟨m, hm, rfl, hbw, x1, hF⟩ := hrel
    have t1 := x1.cell 0
    have l1 := x1.lt
    have HB := Lib.hid hbw
    have X1 := Lib.hid x1
    have zb := hbw.size
    by_cases hlt : m < n
    · obtain ⟨b, off, e, hb, c0, c1, c2, c3, c4, c5, c6⟩ := HR.out.at7 hlt
      have d0 := (hbw.cell (p := ⟨b, off + m * 7, none⟩) hb).trans c0
      have d1 := (hbw.cell (p := ⟨b, off + m * 7 + 1, none⟩) hb).trans c1
      have d2 := (hbw.cell (p := ⟨b, off + m * 7 + 2, none⟩) hb).trans c2
      have d3 := (hbw.cell (p := ⟨b, off + m * 7 + 3, none⟩) hb).trans c3
      have d4 := (hbw.cell (p := ⟨b, off + m * 7 + 4, none⟩) hb).trans c4
      have d5 := (hbw.cell (p := ⟨b, off + m * 7 + 5, none⟩) hb).trans c5
      have d6 := (hbw.cell (p := ⟨b, off + m * 7 + 6, none⟩) hb).trans c6
      have RN := Lib.hid (((HR.out.nodes m hlt).kept hbw).alloc (.cells #[.int .i64 (R m 0), .int .i64 (R m 1), .int .i64 (R m 2), .int .i64 (R m 3), .int .i64 (R m 4), .int .i64 (R m 5), .slice (NA m) (Nn m) (Nc m)] 119))
      have HSm := Lib.hid (HR.out.small m hlt)
      have hmi : (m : Int) < (n : Int) := by omega
      have hm0 : (0 : Int) ≤ (m : Int) := by omega
      have hmc : m ≤ cap := by omega
      have hmc' : (m : Int) ≤ (cap : Int) := by omega
      subst e
      clear c0 c1 c2 c3 c4 c5 c6 hb hbw x1
      rcases Bool.eq_false_or_eq_true (ruleAt R Nn NF m) with k1 | k1
      · have k2 : ruleB (R m 0) (R m 1) (R m 2) (R m 3) (R m 4) (R m 5) (NF m) (Nn m) = true := k1
        have K := Lib.hid k1
        clear k1
        go_wp2_with (go_at_call 73; (with_reducible refine (ruleOk_any (R m 0) (R m 1) (R m 2) (R m 3) (R m 4) (R m 5) (NA m) (Nn m) (Nc m) (NF m) _ HSm.out RN.out).mono ?_); rintro e w1 ⟨rfl, hb1⟩; obtain ⟨hc1, hf1⟩ := bcell hb1; (try simp only [World.size_drew] at hc1 hf1); have hz1 := hb1.size; (try simp at hz1); (try have q1_0 : w.heap.size < w1.heap.size := by omega); (try have q1_1 : w.heap.size + 1 < w1.heap.size := by omega); (try have q1_2 : w.heap.size + 2 < w1.heap.size := by omega); (try have q1_3 : w.heap.size + 3 < w1.heap.size := by omega); (try have q1_4 : w.heap.size + 4 < w1.heap.size := by omega); (try have q1_0_0 : w0.heap.size < w1.heap.size := by omega); (try have q1_0_1 : w0.heap.size + 1 < w1.heap.size := by omega); (try have q1_2_0 : w2.heap.size < w1.heap.size := by omega); (try have q1_2_1 : w2.heap.size + 1 < w1.heap.size := by omega); (try have q1_3_0 : w3.heap.size < w1.heap.size := by omega); (try have q1_3_1 : w3.heap.size + 1 < w1.heap.size := by omega); (try have q1_4_0 : w4.heap.size < w1.heap.size := by omega); (try have q1_4_1 : w4.heap.size + 1 < w1.heap.size := by omega); (try have q1_5_0 : w5.heap.size < w1.heap.size := by omega); (try have q1_5_1 : w5.heap.size + 1 < w1.heap.size := by omega); (try have q1_6_0 : w6.heap.size < w1.heap.size := by omega); (try have q1_6_1 : w6.heap.size + 1 < w1.heap.size := by omega); (try have u1_b : b < w1.heap.size := by omega); (try have u1_q : q < w1.heap.size := by omega); (try have u1_g : g < w1.heap.size := by omega); (try have u1_g1 : g1 < w1.heap.size := by omega); (try have u1_g2 : g2 < w1.heap.size := by omega); (try have u1_g3 : g3 < w1.heap.size := by omega); (try have u1_g4 : g4 < w1.heap.size := by omega); (try have u1_g5 : g5 < w1.heap.size := by omega))
        have B1 := Lib.hid (show Below w.heap.size w w1 by have hbw := HB.out; (repeat (first | with_reducible exact Below.refl _ _ | with_reducible refine Below.drew ?_ | (with_reducible refine Below.alloc ?_ ?hsz _; case hsz => ((try simp) <;> (try omega))) | (with_reducible refine Below.setCell ?_ ?hsz _; case hsz => ((try simp) <;> (try omega))) | (with_reducible refine below_step (by with_reducible assumption) ?hsz ?_; case hsz => ((try simp) <;> (try omega))))))
        have Y1 := Lib.hid ((X1.out.alloc (.cells #[.int .i64 (R m 0), .int .i64 (R m 1), .int .i64 (R m 2), .int .i64 (R m 3), .int .i64 (R m 4), .int .i64 (R m 5), .slice (NA m) (Nn m) (Nc m)] 119)).kept hb1)
        have Y4 := Lib.hid ((Box.made wr 119 #[.int .i64 (R m 0), .int .i64 (R m 1), .int .i64 (R m 2), .int .i64 (R m 3), .int .i64 (R m 4), .int .i64 (R m 5), .slice (NA m) (Nn m) (Nc m)]).kept hb1)
        clear hb1 hc1 hf1 X1 HB RN d0 d1 d2 d3 d4 d5 d6 t1 l1
        obtain ⟨wo, rfl⟩ : ∃ wo : World, wo = wr := ⟨_, rfl⟩
        have t1 := Y1.out.cell 0
        have l1 := Y1.out.lt
        go_wp2_with fail
        go_loopw [23] (fun i ws => ∃ j : Nat, j ≤ m ∧ i = .int .i64 j ∧ Below w.heap.size w ws ∧ Box ws w.heap.size 50 #[.slice (some ⟨b, off, none⟩) n cap] ∧ Box ws wo.heap.size 119 #[.int .i64 (R m 0), .int .i64 (R m 1), .int .i64 (R m 2), .int .i64 (R m 3), .int .i64 (R m 4), .int .i64 (R m 5), .slice (NA m) (Nn m) (Nc m)] ∧ Hid (∀ k, k < j → clash R m k = false)) (fun i _ => m - (intOf i).toNat)
        case atStart => exact ⟨0, Nat.zero_le _, rfl, B1.out, Y1.out, Y4.out, fun k hk => by omega⟩
        case round =>
          clear B1 Y1 Y4
          obtain ⟨j, hj, rfl, hbw, y1, y4, hC⟩ := hrel
          have zb2 := hbw.size
          by_cases hjl : j < m
          · obtain ⟨b', off', e, hb, c0, c1, c2, c3, c4, c5, c6⟩ := HR.out.at7 (show j < n by omega)
            cases e
            have d0 := (hbw.cell (p := ⟨b, off + j * 7, none⟩) hb).trans c0
            have d1 := (hbw.cell (p := ⟨b, off + j * 7 + 1, none⟩) hb).trans c1
            have d2 := (hbw.cell (p := ⟨b, off + j * 7 + 2, none⟩) hb).trans c2
            have d3 := (hbw.cell (p := ⟨b, off + j * 7 + 3, none⟩) hb).trans c3
            have d4 := (hbw.cell (p := ⟨b, off + j * 7 + 4, none⟩) hb).trans c4
            have d5 := (hbw.cell (p := ⟨b, off + j * 7 + 5, none⟩) hb).trans c5
            have d6 := (hbw.cell (p := ⟨b, off + j * 7 + 6, none⟩) hb).trans c6
            have f0 := y4.cell 0
            have f1 := y4.cell 1
            have f2 := y4.cell 2
            have f4 := y4.cell 4
            have l4 := y4.lt
            have hji : (j : Int) < (m : Int) := by omega
            have hj0 : (0 : Int) ≤ (j : Int) := by omega
            have HB2 := Lib.hid hbw
            have Y1 := Lib.hid y1
            have Y4 := Lib.hid y4
            clear c0 c1 c2 c3 c4 c5 c6 hb hbw y1 y4
            rcases Bool.eq_false_or_eq_true (R j 0 == R m 0) with a1 | a1
            · rcases Bool.eq_false_or_eq_true (R j 4 == R m 4) with a2 | a2
              · rcases Bool.eq_false_or_eq_true (decide (R j 1 < R m 2)) with a3 | a3
                · rcases Bool.eq_false_or_eq_true (decide (R m 1 < R j 2)) with a4 | a4
                  · have KC := Lib.hid (show clash R m j = true by simp only [clash, a1, a2, a3, a4, Bool.and_self])
                    go_wp2_with fail
                    go_ret
                    exact ⟨ret_bool (bookB_bad hlt (bookAt_clash hjl KC.out)).symm, by have hbw := HB2.out; (repeat (first | with_reducible exact Below.refl _ _ | with_reducible refine Below.drew ?_ | (with_reducible refine Below.alloc ?_ ?hsz _; case hsz => ((try simp) <;> (try omega))) | (with_reducible refine Below.setCell ?_ ?hsz _; case hsz => ((try simp) <;> (try omega))) | (with_reducible refine below_step (by with_reducible assumption) ?hsz ?_; case hsz => ((try simp) <;> (try omega)))))⟩
                  · have KC := Lib.hid (show clash R m j = false by simp only [clash, a4, Bool.and_false])
                    go_wp2_with fail; go_roundw; (case rel => exact ⟨j + 1, by omega, by go_num, (by have hbw := HB2.out; (repeat (first | with_reducible exact Below.refl _ _ | with_reducible refine Below.drew ?_ | (with_reducible refine Below.alloc ?_ ?hsz _; case hsz => ((try simp) <;> (try omega))) | (with_reducible refine Below.setCell ?_ ?hsz _; case hsz => ((try simp) <;> (try omega))) | (with_reducible refine below_step (by with_reducible assumption) ?hsz ?_; case hsz => ((try simp) <;> (try omega)))))), Y1.out.alloc _, Y4.out.alloc _, fun k hk => by rcases Nat.lt_or_ge k j with h | h; exact hC.out k h; obtain rfl : k = j := (by omega); exact KC.out⟩); (case measure => simp [intOf]; omega)
                · have KC := Lib.hid (show clash R m j = false by simp only [clash, a3, Bool.false_and, Bool.and_false])
                  go_wp2_with fail; go_roundw; (case rel => exact ⟨j + 1, by omega, by go_num, (by have hbw := HB2.out; (repeat (first | with_reducible exact Below.refl _ _ | with_reducible refine Below.drew ?_ | (with_reducible refine Below.alloc ?_ ?hsz _; case hsz => ((try simp) <;> (try omega))) | (with_reducible refine Below.setCell ?_ ?hsz _; case hsz => ((try simp) <;> (try omega))) | (with_reducible refine below_step (by with_reducible assumption) ?hsz ?_; case hsz => ((try simp) <;> (try omega)))))), Y1.out.alloc _, Y4.out.alloc _, fun k hk => by rcases Nat.lt_or_ge k j with h | h; exact hC.out k h; obtain rfl : k = j := (by omega); exact KC.out⟩); (case measure => simp [intOf]; omega)
              · have KC := Lib.hid (show clash R m j = false by simp only [clash, a2, Bool.false_and, Bool.and_false])
                go_wp2_with fail; go_roundw; (case rel => exact ⟨j + 1, by omega, by go_num, (by have hbw := HB2.out; (repeat (first | with_reducible exact Below.refl _ _ | with_reducible refine Below.drew ?_ | (with_reducible refine Below.alloc ?_ ?hsz _; case hsz => ((try simp) <;> (try omega))) | (with_reducible refine Below.setCell ?_ ?hsz _; case hsz => ((try simp) <;> (try omega))) | (with_reducible refine below_step (by with_reducible assumption) ?hsz ?_; case hsz => ((try simp) <;> (try omega)))))), Y1.out.alloc _, Y4.out.alloc _, fun k hk => by rcases Nat.lt_or_ge k j with h | h; exact hC.out k h; obtain rfl : k = j := (by omega); exact KC.out⟩); (case measure => simp [intOf]; omega)
            · have KC := Lib.hid (show clash R m j = false by simp only [clash, a1, Bool.false_and])
              go_wp2_with fail; go_roundw; (case rel => exact ⟨j + 1, by omega, by go_num, (by have hbw := HB2.out; (repeat (first | with_reducible exact Below.refl _ _ | with_reducible refine Below.drew ?_ | (with_reducible refine Below.alloc ?_ ?hsz _; case hsz => ((try simp) <;> (try omega))) | (with_reducible refine Below.setCell ?_ ?hsz _; case hsz => ((try simp) <;> (try omega))) | (with_reducible refine below_step (by with_reducible assumption) ?hsz ?_; case hsz => ((try simp) <;> (try omega)))))), Y1.out.alloc _, Y4.out.alloc _, fun k hk => by rcases Nat.lt_or_ge k j with h | h; exact hC.out k h; obtain rfl : k = j := (by omega); exact KC.out⟩); (case measure => simp [intOf]; omega)
          · obtain rfl : m = j := by omega
            have HK := Lib.hid (bookAt_good K.out hC.out)
            go_wp2
            go_roundw
            case rel => exact ⟨m + 1, by omega, by go_num, hbw, y1, allT_snoc hF.out HK.out⟩
            case measure => simp [intOf]; omega
      · have k2 : ruleB (R m 0) (R m 1) (R m 2) (R m 3) (R m 4) (R m 5) (NF m) (Nn m) = false := k1
        have K := Lib.hid (show bookAt R Nn NF m = false by simp only [bookAt, k1, Bool.false_and])
        clear k1
        go_wp2_with (go_at_call 73; (with_reducible refine (ruleOk_any (R m 0) (R m 1) (R m 2) (R m 3) (R m 4) (R m 5) (NA m) (Nn m) (Nc m) (NF m) _ HSm.out RN.out).mono ?_); rintro e w1 ⟨rfl, hb1⟩; obtain ⟨hc1, hf1⟩ := bcell hb1; (try simp only [World.size_drew] at hc1 hf1); have hz1 := hb1.size; (try simp at hz1); (try have q1_0 : w.heap.size < w1.heap.size := by omega); (try have q1_1 : w.heap.size + 1 < w1.heap.size := by omega); (try have q1_2 : w.heap.size + 2 < w1.heap.size := by omega); (try have q1_3 : w.heap.size + 3 < w1.heap.size := by omega); (try have q1_4 : w.heap.size + 4 < w1.heap.size := by omega); (try have q1_0_0 : w0.heap.size < w1.heap.size := by omega); (try have q1_0_1 : w0.heap.size + 1 < w1.heap.size := by omega); (try have q1_2_0 : w2.heap.size < w1.heap.size := by omega); (try have q1_2_1 : w2.heap.size + 1 < w1.heap.size := by omega); (try have q1_3_0 : w3.heap.size < w1.heap.size := by omega); (try have q1_3_1 : w3.heap.size + 1 < w1.heap.size := by omega); (try have q1_4_0 : w4.heap.size < w1.heap.size := by omega); (try have q1_4_1 : w4.heap.size + 1 < w1.heap.size := by omega); (try have q1_5_0 : w5.heap.size < w1.heap.size := by omega); (try have q1_5_1 : w5.heap.size + 1 < w1.heap.size := by omega); (try have q1_6_0 : w6.heap.size < w1.heap.size := by omega); (try have q1_6_1 : w6.heap.size + 1 < w1.heap.size := by omega); (try have u1_b : b < w1.heap.size := by omega); (try have u1_q : q < w1.heap.size := by omega); (try have u1_g : g < w1.heap.size := by omega); (try have u1_g1 : g1 < w1.heap.size := by omega); (try have u1_g2 : g2 < w1.heap.size := by omega); (try have u1_g3 : g3 < w1.heap.size := by omega); (try have u1_g4 : g4 < w1.heap.size := by omega); (try have u1_g5 : g5 < w1.heap.size := by omega))
        go_ret
        exact ⟨ret_bool (bookB_bad hlt K.out).symm, (by have hbw := HB.out; (repeat (first | with_reducible exact Below.refl _ _ | with_reducible refine Below.drew ?_ | (with_reducible refine Below.alloc ?_ ?hsz _; case hsz => ((try simp) <;> (try omega))) | (with_reducible refine Below.setCell ?_ ?hsz _; case hsz => ((try simp) <;> (try omega))) | (with_reducible refine below_step (by with_reducible assumption) ?hsz ?_; case hsz => ((try simp) <;> (try omega))))))⟩
    · obtain rfl : n = m := by omega
      have HE := Lib.hid (show bookB R Nn NF n = decide (n ≤ 20) by simp only [bookB, allB_iff.2 hF.out, Bool.true_and])
      clear hbw x1
      go_wp2_with fail
      go_ret
      exact ⟨ret_bool (by rw [HE.out]; first | rfl | (simp; done) | (rw [Bool.eq_iff_iff]; simp; omega)), HB.out⟩
end Go.Proofs.Ytgfcmeiffhffaaa
namespace Go.Proofs.Ytgfcmeiffhffaaa
open Go.RowKit

theorem endOk_any (x : Int) (w : World) : Calls Try.prog 99 #[.int .i64 x] w fun e w' => e = .returned (.bool (inB x 0 3600)) ∧ w = w' := by
  go_enter Try.func99, Try.ntmps99
  go_wp2_with (go_at_call 55; (with_reducible refine (l01In_any x 0 3600 _).mono ?_); rintro e w' ⟨rfl, rfl⟩)
  go_ret
  exact ⟨rfl, rfl⟩
/-- The months that two spans share. -/
def bothI (a b c d : Int) : Int := if 0 < min b d - (if a < c then c else a) then min b d - (if a < c then c else a) else 0
theorem bothI_pos {a b c d : Int} (h1 : a < b) (h2 : c < d) : decide (0 < bothI a b c d) = (decide (a < d) && decide (c < b)) := by
  rw [Bool.eq_iff_iff]
  simp only [Bool.and_eq_true, decide_eq_true_eq]
  unfold bothI
  rcases Int.le_total b d with h3 | h3
  · rw [Int.min_eq_left h3]
    split <;> split <;> omega
  · rw [Int.min_eq_right h3]
    split <;> split <;> omega
theorem monthsIn_any (a b c d : Int) (h1 : spanB a b = true) (h2 : spanB c d = true) (w : World) : Calls Try.prog 68 #[.int .i64 a, .int .i64 b, .int .i64 c, .int .i64 d] w fun e w' => e = .returned (.int .i64 (bothI a b c d)) ∧ w = w' := by
  obtain ⟨a0, a1, a2⟩ := spanB_true.1 h1
  obtain ⟨c0, c1, c2⟩ := spanB_true.1 h2
  have q1 : inB a 0 3600 = true := inB_true.2 (by omega)
  have q2 : inB b 0 3600 = true := inB_true.2 (by omega)
  have q3 : inB c 0 3600 = true := inB_true.2 (by omega)
  have q4 : inB d 0 3600 = true := inB_true.2 (by omega)
  have HX := Lib.hid (show ∀ x y : Int, min x y = if x ≤ y then x else y from fun x y => rfl)
  go_enter Try.func68, Try.ntmps68
  go_wp2_with (first | (go_at_call 99; (with_reducible refine (endOk_any a _).mono ?_); rintro e w' ⟨rfl, rfl⟩) | (go_at_call 99; (with_reducible refine (endOk_any b _).mono ?_); rintro e w' ⟨rfl, rfl⟩) | (go_at_call 99; (with_reducible refine (endOk_any c _).mono ?_); rintro e w' ⟨rfl, rfl⟩) | (go_at_call 99; (with_reducible refine (endOk_any d _).mono ?_); rintro e w' ⟨rfl, rfl⟩))
  all_goals go_ret
  all_goals exact ⟨ret_int (by unfold bothI; repeat' split <;> omega), rfl⟩
set_option maxRecDepth 100000 in
set_option maxHeartbeats 8000000 in
theorem sbookOk_any (A : Option Addr) (n cap : Nat) (R : Nat → Nat → Int) (NA : Nat → Option Addr) (Nn Nc : Nat → Nat) (NF : Nat → Nat → Nat → Int) (w : World) (hn : n ≤ 1048576) (hr : Rules w A n R NA Nn Nc NF) :
    Calls Try.prog 36 #[.agg #[.slice A n cap]] w fun e w' => e = .returned (.bool (bookB R Nn NF n)) ∧ Below w.heap.size w w' := by
  have HR := Lib.hid hr
  clear hr
  go_enter Try.func36, Try.ntmps36
  go_wp2_with fail
  go_loopw [3] (fun i wr => ∃ m : Nat, m ≤ n ∧ i = .int .i64 m ∧ Below w.heap.size w wr ∧ Box wr w.heap.size 50 #[.slice A n cap] ∧ Hid (∀ i, i < m → bookAt R Nn NF i = true)) (fun i _ => n - (intOf i).toNat)
  case atStart => exact ⟨0, Nat.zero_le _, rfl, by (repeat (first | with_reducible exact Below.refl _ _ | with_reducible refine Below.drew ?_ | (with_reducible refine Below.alloc ?_ ?hsz _; case hsz => ((try simp) <;> (try omega))) | (with_reducible refine Below.setCell ?_ ?hsz _; case hsz => ((try simp) <;> (try omega))) | (with_reducible refine below_step (by with_reducible assumption) ?hsz ?_; case hsz => ((try simp) <;> (try omega))))), by (repeat (first | with_reducible assumption | with_reducible exact Box.made _ _ _ | (with_reducible refine Box.made_at ?hg; case hg => (simp; done)) | with_reducible refine Box.drew ?_ | with_reducible refine Box.alloc ?_ _ | (with_reducible refine Box.put2 (a := .int .i64 0) (b := .int .i64 0) ?_ _ _) | (with_reducible refine Box.far ?_ ?hg _; case hg => ((try simp) <;> (try omega))) | with_reducible refine Box.kept ?_ (by with_reducible assumption))), fun i hi => by omega⟩
  case round =>
    obtain ⟨m, hm, rfl, hbw, x1, hF⟩ := hrel
    have t1 := x1.cell 0
    have l1 := x1.lt
    have HB := Lib.hid hbw
    have X1 := Lib.hid x1
    have zb := hbw.size
    by_cases hlt : m < n
    · obtain ⟨b, off, e, hb, c0, c1, c2, c3, c4, c5, c6⟩ := HR.out.at7 hlt
      have d0 := (hbw.cell (p := ⟨b, off + m * 7, none⟩) hb).trans c0
      have d1 := (hbw.cell (p := ⟨b, off + m * 7 + 1, none⟩) hb).trans c1
      have d2 := (hbw.cell (p := ⟨b, off + m * 7 + 2, none⟩) hb).trans c2
      have d3 := (hbw.cell (p := ⟨b, off + m * 7 + 3, none⟩) hb).trans c3
      have d4 := (hbw.cell (p := ⟨b, off + m * 7 + 4, none⟩) hb).trans c4
      have d5 := (hbw.cell (p := ⟨b, off + m * 7 + 5, none⟩) hb).trans c5
      have d6 := (hbw.cell (p := ⟨b, off + m * 7 + 6, none⟩) hb).trans c6
      have RN := Lib.hid (((HR.out.nodes m hlt).kept hbw).alloc (.cells #[.int .i64 (R m 0), .int .i64 (R m 1), .int .i64 (R m 2), .int .i64 (R m 3), .int .i64 (R m 4), .int .i64 (R m 5), .slice (NA m) (Nn m) (Nc m)] 119))
      have HSm := Lib.hid (HR.out.small m hlt)
      have hmi : (m : Int) < (n : Int) := by omega
      have hm0 : (0 : Int) ≤ (m : Int) := by omega
      subst e
      clear c0 c1 c2 c3 c4 c5 c6 hb hbw x1
      rcases Bool.eq_false_or_eq_true (ruleAt R Nn NF m) with k1 | k1
      · have k2 : ruleB (R m 0) (R m 1) (R m 2) (R m 3) (R m 4) (R m 5) (NF m) (Nn m) = true := k1
        have K := Lib.hid k1
        have SP := Lib.hid (fun k (hk : k ≤ m) => (by
          rcases Nat.lt_or_ge k m with h | h
          · have h2 := hF.out k h
            simp only [bookAt, ruleAt, ruleB, Bool.and_eq_true] at h2
            exact h2.1.2.1
          · obtain rfl : k = m := by omega
            simp only [ruleAt, ruleB, Bool.and_eq_true] at k1
            exact k1.2.1 : spanB (R k 1) (R k 2) = true))
        clear k1
        go_wp2_with (go_at_call 67; (with_reducible refine (sruleOk_any (R m 0) (R m 1) (R m 2) (R m 3) (R m 4) (R m 5) (NA m) (Nn m) (Nc m) (NF m) _ HSm.out RN.out).mono ?_); rintro e w1 ⟨rfl, hb1⟩; obtain ⟨hc1, hf1⟩ := bcell hb1; (try simp only [World.size_drew] at hc1 hf1); have hz1 := hb1.size; (try simp at hz1); (try have q1_0 : w.heap.size < w1.heap.size := by omega); (try have q1_1 : w.heap.size + 1 < w1.heap.size := by omega); (try have q1_2 : w.heap.size + 2 < w1.heap.size := by omega); (try have q1_3 : w.heap.size + 3 < w1.heap.size := by omega); (try have q1_4 : w.heap.size + 4 < w1.heap.size := by omega); (try have q1_0_0 : w0.heap.size < w1.heap.size := by omega); (try have q1_0_1 : w0.heap.size + 1 < w1.heap.size := by omega); (try have q1_2_0 : w2.heap.size < w1.heap.size := by omega); (try have q1_2_1 : w2.heap.size + 1 < w1.heap.size := by omega); (try have q1_3_0 : w3.heap.size < w1.heap.size := by omega); (try have q1_3_1 : w3.heap.size + 1 < w1.heap.size := by omega); (try have q1_4_0 : w4.heap.size < w1.heap.size := by omega); (try have q1_4_1 : w4.heap.size + 1 < w1.heap.size := by omega); (try have q1_5_0 : w5.heap.size < w1.heap.size := by omega); (try have q1_5_1 : w5.heap.size + 1 < w1.heap.size := by omega); (try have q1_6_0 : w6.heap.size < w1.heap.size := by omega); (try have q1_6_1 : w6.heap.size + 1 < w1.heap.size := by omega); (try have u1_b : b < w1.heap.size := by omega); (try have u1_q : q < w1.heap.size := by omega); (try have u1_g : g < w1.heap.size := by omega); (try have u1_g1 : g1 < w1.heap.size := by omega); (try have u1_g2 : g2 < w1.heap.size := by omega); (try have u1_g3 : g3 < w1.heap.size := by omega); (try have u1_g4 : g4 < w1.heap.size := by omega); (try have u1_g5 : g5 < w1.heap.size := by omega))
        have B1 := Lib.hid (show Below w.heap.size w w1 by have hbw := HB.out; (repeat (first | with_reducible exact Below.refl _ _ | with_reducible refine Below.drew ?_ | (with_reducible refine Below.alloc ?_ ?hsz _; case hsz => ((try simp) <;> (try omega))) | (with_reducible refine Below.setCell ?_ ?hsz _; case hsz => ((try simp) <;> (try omega))) | (with_reducible refine below_step (by with_reducible assumption) ?hsz ?_; case hsz => ((try simp) <;> (try omega))))))
        have Y1 := Lib.hid ((X1.out.alloc (.cells #[.int .i64 (R m 0), .int .i64 (R m 1), .int .i64 (R m 2), .int .i64 (R m 3), .int .i64 (R m 4), .int .i64 (R m 5), .slice (NA m) (Nn m) (Nc m)] 119)).kept hb1)
        have Y4 := Lib.hid ((Box.made wr 119 #[.int .i64 (R m 0), .int .i64 (R m 1), .int .i64 (R m 2), .int .i64 (R m 3), .int .i64 (R m 4), .int .i64 (R m 5), .slice (NA m) (Nn m) (Nc m)]).kept hb1)
        clear hb1 hc1 hf1 X1 HB RN d0 d1 d2 d3 d4 d5 d6 t1 l1
        obtain ⟨wo, rfl⟩ : ∃ wo : World, wo = wr := ⟨_, rfl⟩
        have t1 := Y1.out.cell 0
        have l1 := Y1.out.lt
        go_wp2_with fail
        go_loopw [5] (fun i ws => ∃ j : Nat, j ≤ m ∧ i = .int .i64 j ∧ Below w.heap.size w ws ∧ Box ws w.heap.size 50 #[.slice (some ⟨b, off, none⟩) n cap] ∧ Box ws wo.heap.size 119 #[.int .i64 (R m 0), .int .i64 (R m 1), .int .i64 (R m 2), .int .i64 (R m 3), .int .i64 (R m 4), .int .i64 (R m 5), .slice (NA m) (Nn m) (Nc m)] ∧ Hid (∀ k, k < j → clash R m k = false)) (fun i _ => m - (intOf i).toNat)
        case atStart => exact ⟨0, Nat.zero_le _, rfl, B1.out, Y1.out, Y4.out, fun k hk => by omega⟩
        case round =>
          clear B1 Y1 Y4
          obtain ⟨j, hj, rfl, hbw, y1, y4, hC⟩ := hrel
          have zb2 := hbw.size
          by_cases hjl : j < m
          · obtain ⟨b', off', e, hb, c0, c1, c2, c3, c4, c5, c6⟩ := HR.out.at7 (show j < n by omega)
            cases e
            have d0 := (hbw.cell (p := ⟨b, off + j * 7, none⟩) hb).trans c0
            have d1 := (hbw.cell (p := ⟨b, off + j * 7 + 1, none⟩) hb).trans c1
            have d2 := (hbw.cell (p := ⟨b, off + j * 7 + 2, none⟩) hb).trans c2
            have d3 := (hbw.cell (p := ⟨b, off + j * 7 + 3, none⟩) hb).trans c3
            have d4 := (hbw.cell (p := ⟨b, off + j * 7 + 4, none⟩) hb).trans c4
            have d5 := (hbw.cell (p := ⟨b, off + j * 7 + 5, none⟩) hb).trans c5
            have d6 := (hbw.cell (p := ⟨b, off + j * 7 + 6, none⟩) hb).trans c6
            have g1 := y1.cell 0
            have lg1 := y1.lt
            have f0 := y4.cell 0
            have f1 := y4.cell 1
            have f2 := y4.cell 2
            have f4 := y4.cell 4
            have l4 := y4.lt
            have hji : (j : Int) < (m : Int) := by omega
            have hj0 : (0 : Int) ≤ (j : Int) := by omega
            have HB2 := Lib.hid hbw
            have Y1 := Lib.hid y1
            have Y4 := Lib.hid y4
            clear c0 c1 c2 c3 c4 c5 c6 hb hbw y1 y4
            have HMI := Lib.hid (monthsIn_any (R j 1) (R j 2) (R m 1) (R m 2) (SP.out j (by omega)) (SP.out m (Nat.le_refl _)))
            have HPOS := Lib.hid (bothI_pos (spanB_true.1 (SP.out j (by omega))).2.1 (spanB_true.1 (SP.out m (Nat.le_refl _))).2.1)
            rcases Bool.eq_false_or_eq_true (R j 0 == R m 0) with a1 | a1
            · rcases Bool.eq_false_or_eq_true (R j 4 == R m 4) with a2 | a2
              · rcases Bool.eq_false_or_eq_true (decide (0 < bothI (R j 1) (R j 2) (R m 1) (R m 2))) with a3 | a3
                · have KC := Lib.hid (show clash R m j = true by have h := HPOS.out; rw [a3] at h; simp only [clash, a1, a2, ← h, Bool.and_self])
                  clear HPOS
                  generalize bothI (R j 1) (R j 2) (R m 1) (R m 2) = mi at *
                  go_wp2_with (go_at_call 68; (with_reducible refine (HMI.out _).mono ?_); rintro e w' ⟨rfl, rfl⟩)
                  go_ret
                  exact ⟨ret_bool (bookB_bad hlt (bookAt_clash hjl KC.out)).symm, by have hbw := HB2.out; (repeat (first | with_reducible exact Below.refl _ _ | with_reducible refine Below.drew ?_ | (with_reducible refine Below.alloc ?_ ?hsz _; case hsz => ((try simp) <;> (try omega))) | (with_reducible refine Below.setCell ?_ ?hsz _; case hsz => ((try simp) <;> (try omega))) | (with_reducible refine below_step (by with_reducible assumption) ?hsz ?_; case hsz => ((try simp) <;> (try omega)))))⟩
                · have KC := Lib.hid (show clash R m j = false by have h := HPOS.out; rw [a3] at h; simp only [clash, ← h, Bool.and_false])
                  clear HPOS
                  generalize bothI (R j 1) (R j 2) (R m 1) (R m 2) = mi at *
                  go_wp2_with (go_at_call 68; (with_reducible refine (HMI.out _).mono ?_); rintro e w' ⟨rfl, rfl⟩); go_roundw; (case rel => exact ⟨j + 1, by omega, by go_num, (by have hbw := HB2.out; (repeat (first | with_reducible exact Below.refl _ _ | with_reducible refine Below.drew ?_ | (with_reducible refine Below.alloc ?_ ?hsz _; case hsz => ((try simp) <;> (try omega))) | (with_reducible refine Below.setCell ?_ ?hsz _; case hsz => ((try simp) <;> (try omega))) | (with_reducible refine below_step (by with_reducible assumption) ?hsz ?_; case hsz => ((try simp) <;> (try omega)))))), Y1.out.alloc _, Y4.out.alloc _, fun k hk => by rcases Nat.lt_or_ge k j with h | h; exact hC.out k h; obtain rfl : k = j := (by omega); exact KC.out⟩); (case measure => simp [intOf]; omega)
              · have KC := Lib.hid (show clash R m j = false by simp only [clash, a2, Bool.false_and, Bool.and_false])
                go_wp2_with (go_at_call 68; (with_reducible refine (HMI.out _).mono ?_); rintro e w' ⟨rfl, rfl⟩); go_roundw; (case rel => exact ⟨j + 1, by omega, by go_num, (by have hbw := HB2.out; (repeat (first | with_reducible exact Below.refl _ _ | with_reducible refine Below.drew ?_ | (with_reducible refine Below.alloc ?_ ?hsz _; case hsz => ((try simp) <;> (try omega))) | (with_reducible refine Below.setCell ?_ ?hsz _; case hsz => ((try simp) <;> (try omega))) | (with_reducible refine below_step (by with_reducible assumption) ?hsz ?_; case hsz => ((try simp) <;> (try omega)))))), Y1.out.alloc _, Y4.out.alloc _, fun k hk => by rcases Nat.lt_or_ge k j with h | h; exact hC.out k h; obtain rfl : k = j := (by omega); exact KC.out⟩); (case measure => simp [intOf]; omega)
            · have KC := Lib.hid (show clash R m j = false by simp only [clash, a1, Bool.false_and])
              go_wp2_with (go_at_call 68; (with_reducible refine (HMI.out _).mono ?_); rintro e w' ⟨rfl, rfl⟩); go_roundw; (case rel => exact ⟨j + 1, by omega, by go_num, (by have hbw := HB2.out; (repeat (first | with_reducible exact Below.refl _ _ | with_reducible refine Below.drew ?_ | (with_reducible refine Below.alloc ?_ ?hsz _; case hsz => ((try simp) <;> (try omega))) | (with_reducible refine Below.setCell ?_ ?hsz _; case hsz => ((try simp) <;> (try omega))) | (with_reducible refine below_step (by with_reducible assumption) ?hsz ?_; case hsz => ((try simp) <;> (try omega)))))), Y1.out.alloc _, Y4.out.alloc _, fun k hk => by rcases Nat.lt_or_ge k j with h | h; exact hC.out k h; obtain rfl : k = j := (by omega); exact KC.out⟩); (case measure => simp [intOf]; omega)
          · obtain rfl : m = j := by omega
            have HK := Lib.hid (bookAt_good K.out hC.out)
            go_wp2
            go_roundw
            case rel => exact ⟨m + 1, by omega, by go_num, hbw, y1, allT_snoc hF.out HK.out⟩
            case measure => simp [intOf]; omega
      · have k2 : ruleB (R m 0) (R m 1) (R m 2) (R m 3) (R m 4) (R m 5) (NF m) (Nn m) = false := k1
        have K := Lib.hid (show bookAt R Nn NF m = false by simp only [bookAt, k1, Bool.false_and])
        clear k1
        go_wp2_with (go_at_call 67; (with_reducible refine (sruleOk_any (R m 0) (R m 1) (R m 2) (R m 3) (R m 4) (R m 5) (NA m) (Nn m) (Nc m) (NF m) _ HSm.out RN.out).mono ?_); rintro e w1 ⟨rfl, hb1⟩; obtain ⟨hc1, hf1⟩ := bcell hb1; (try simp only [World.size_drew] at hc1 hf1); have hz1 := hb1.size; (try simp at hz1); (try have q1_0 : w.heap.size < w1.heap.size := by omega); (try have q1_1 : w.heap.size + 1 < w1.heap.size := by omega); (try have q1_2 : w.heap.size + 2 < w1.heap.size := by omega); (try have q1_3 : w.heap.size + 3 < w1.heap.size := by omega); (try have q1_4 : w.heap.size + 4 < w1.heap.size := by omega); (try have q1_0_0 : w0.heap.size < w1.heap.size := by omega); (try have q1_0_1 : w0.heap.size + 1 < w1.heap.size := by omega); (try have q1_2_0 : w2.heap.size < w1.heap.size := by omega); (try have q1_2_1 : w2.heap.size + 1 < w1.heap.size := by omega); (try have q1_3_0 : w3.heap.size < w1.heap.size := by omega); (try have q1_3_1 : w3.heap.size + 1 < w1.heap.size := by omega); (try have q1_4_0 : w4.heap.size < w1.heap.size := by omega); (try have q1_4_1 : w4.heap.size + 1 < w1.heap.size := by omega); (try have q1_5_0 : w5.heap.size < w1.heap.size := by omega); (try have q1_5_1 : w5.heap.size + 1 < w1.heap.size := by omega); (try have q1_6_0 : w6.heap.size < w1.heap.size := by omega); (try have q1_6_1 : w6.heap.size + 1 < w1.heap.size := by omega); (try have u1_b : b < w1.heap.size := by omega); (try have u1_q : q < w1.heap.size := by omega); (try have u1_g : g < w1.heap.size := by omega); (try have u1_g1 : g1 < w1.heap.size := by omega); (try have u1_g2 : g2 < w1.heap.size := by omega); (try have u1_g3 : g3 < w1.heap.size := by omega); (try have u1_g4 : g4 < w1.heap.size := by omega); (try have u1_g5 : g5 < w1.heap.size := by omega))
        go_ret
        exact ⟨ret_bool (bookB_bad hlt K.out).symm, (by have hbw := HB.out; (repeat (first | with_reducible exact Below.refl _ _ | with_reducible refine Below.drew ?_ | (with_reducible refine Below.alloc ?_ ?hsz _; case hsz => ((try simp) <;> (try omega))) | (with_reducible refine Below.setCell ?_ ?hsz _; case hsz => ((try simp) <;> (try omega))) | (with_reducible refine below_step (by with_reducible assumption) ?hsz ?_; case hsz => ((try simp) <;> (try omega))))))⟩
    · obtain rfl : n = m := by omega
      have HE := Lib.hid (show bookB R Nn NF n = decide (n ≤ 20) by simp only [bookB, allB_iff.2 hF.out, Bool.true_and])
      clear hbw x1
      go_wp2_with fail
      go_ret
      exact ⟨ret_bool (by rw [HE.out]; first | rfl | (simp; done) | (rw [Bool.eq_iff_iff]; simp; omega)), HB.out⟩
end Go.Proofs.Ytgfcmeiffhffaaa
namespace Go.Proofs.Ytgfcmeiffhffaaa
open Go.RowKit

/-- Is rule i taken, where b is the best so far? -/
def takesB (R : Nat → Nat → Int) (nm t j b : Int) (i : Nat) : Bool := (R i 0 == nm) && (decide (R i 1 ≤ t) && (decide (t < R i 2) && (decide (j < R i 3) && (decide (b < 0) || decide (R b.toNat 4 < R i 4)))))
def bestI (R : Nat → Nat → Int) (nm t j : Int) : Nat → Int
  | 0 => -1
  | i + 1 => if takesB R nm t j (bestI R nm t j i) i = true then i else bestI R nm t j i
theorem bestI_cases (R : Nat → Nat → Int) (nm t j : Int) : ∀ m, bestI R nm t j m = -1 ∨ ∃ k : Nat, k < m ∧ bestI R nm t j m = k
  | 0 => .inl rfl
  | m + 1 => by
    simp only [bestI]
    split
    · exact .inr ⟨m, by omega, rfl⟩
    · rcases bestI_cases R nm t j m with h | ⟨k, hk, h⟩
      · exact .inl h
      · exact .inr ⟨k, by omega, h⟩
theorem bestI_take {R : Nat → Nat → Int} {nm t j b : Int} {i : Nat} (hb : bestI R nm t j i = b) (h : takesB R nm t j b i = true) : (i : Int) = bestI R nm t j (i + 1) := by simp only [bestI, hb, if_pos h]
theorem bestI_leave {R : Nat → Nat → Int} {nm t j b : Int} {i : Nat} (hb : bestI R nm t j i = b) (h : takesB R nm t j b i = false) : b = bestI R nm t j (i + 1) := by
  simp only [bestI, hb]
  rw [if_neg (by rw [h]; decide)]
set_option maxRecDepth 100000 in
set_option maxHeartbeats 16000000 in
theorem ruleFor_any (A : Option Addr) (n cap : Nat) (R : Nat → Nat → Int) (NA : Nat → Option Addr) (Nn Nc : Nat → Nat) (NF : Nat → Nat → Nat → Int) (nm t j : Int) (w : World) (hn : n ≤ 20) (hcap : n ≤ cap) (hr : Rules w A n R NA Nn Nc NF) (hok : bookB R Nn NF n = true) :
    Calls Try.prog 94 #[.agg #[.slice A n cap], .int .i64 nm, .int .i64 t, .int .i64 j] w fun e w' => e = .returned (.int .i64 (bestI R nm t j n)) ∧ Below w.heap.size w w' := by
  have HR := Lib.hid hr
  clear hr
  go_enter Try.func94, Try.ntmps94
  go_wp2_with fail
  go_loopw [9, 15] (fun x i wr => ∃ m : Nat, m ≤ n ∧ i = .int .i64 m ∧ x = .int .i64 (bestI R nm t j m) ∧ Below w.heap.size w wr ∧ Box wr w.heap.size 50 #[.slice A n cap]) (fun _ i _ => n - (intOf i).toNat)
  case atStart => exact ⟨0, Nat.zero_le _, rfl, rfl, by (repeat (first | with_reducible exact Below.refl _ _ | with_reducible refine Below.drew ?_ | (with_reducible refine Below.alloc ?_ ?hsz _; case hsz => ((try simp) <;> (try omega))) | (with_reducible refine Below.setCell ?_ ?hsz _; case hsz => ((try simp) <;> (try omega))) | (with_reducible refine below_step (by with_reducible assumption) ?hsz ?_; case hsz => ((try simp) <;> (try omega))))), by (repeat (first | with_reducible assumption | with_reducible exact Box.made _ _ _ | (with_reducible refine Box.made_at ?hg; case hg => (simp; done)) | with_reducible refine Box.drew ?_ | with_reducible refine Box.alloc ?_ _ | (with_reducible refine Box.put2 (a := .int .i64 0) (b := .int .i64 0) ?_ _ _) | (with_reducible refine Box.far ?_ ?hg _; case hg => ((try simp) <;> (try omega))) | with_reducible refine Box.kept ?_ (by with_reducible assumption)))⟩
  case round =>
    obtain ⟨m, hm, rfl, rfl, hbw, x1⟩ := hrel
    have t1 := x1.cell 0
    have l1 := x1.lt
    have HB := Lib.hid hbw
    have X1 := Lib.hid x1
    have zb := hbw.size
    by_cases hlt : m < n
    · obtain ⟨b, off, e, hb, c0, c1, c2, c3, c4, c5, c6⟩ := HR.out.at7 hlt
      have d0 := (hbw.cell (p := ⟨b, off + m * 7, none⟩) hb).trans c0
      have d1 := (hbw.cell (p := ⟨b, off + m * 7 + 1, none⟩) hb).trans c1
      have d2 := (hbw.cell (p := ⟨b, off + m * 7 + 2, none⟩) hb).trans c2
      have d3 := (hbw.cell (p := ⟨b, off + m * 7 + 3, none⟩) hb).trans c3
      have d4 := (hbw.cell (p := ⟨b, off + m * 7 + 4, none⟩) hb).trans c4
      have d5 := (hbw.cell (p := ⟨b, off + m * 7 + 5, none⟩) hb).trans c5
      have d6 := (hbw.cell (p := ⟨b, off + m * 7 + 6, none⟩) hb).trans c6
      have lb : b < wr.heap.size := Nat.lt_of_lt_of_le hb zb
      have hmi : (m : Int) < (n : Int) := by omega
      have hm0 : (0 : Int) ≤ (m : Int) := by omega
      have HP := Lib.hid (fun k (hk : k < n) => (by
        obtain ⟨b', off', e', hb', _, _, _, _, h4, _⟩ := HR.out.at7 hk
        rw [e] at e'
        cases e'
        exact (hbw.cell (p := ⟨b, off + k * 7 + 4, none⟩) hb').trans h4 : wr.cell? ⟨b, off + k * 7 + 4, none⟩ = some (.int .i64 (R k 4))))
      subst e
      clear c0 c1 c2 c3 c4 c5 c6 hb hbw x1
      have HC := Lib.hid (bestI_cases R nm t j m)
      generalize hbx : bestI R nm t j m = bx at *
      have HX := Lib.hid hbx
      clear hbx
      rcases Bool.eq_false_or_eq_true (R m 0 == nm) with a1 | a1
      · skip
        rcases Bool.eq_false_or_eq_true (decide (R m 1 ≤ t)) with a2 | a2
        · skip
          rcases Bool.eq_false_or_eq_true (decide (t < R m 2)) with a3 | a3
          · skip
            rcases Bool.eq_false_or_eq_true (decide (j < R m 3)) with a4 | a4
            · skip
              rcases HC.out with rfl | ⟨k, hk, rfl⟩
              · have K := Lib.hid (show takesB R nm t j (-1) m = true by simp only [takesB, a1, a2, a3, a4, Bool.true_and]; rfl)
                clear HP
                go_wp2_with fail; go_big_quiet (fail); go_wp2_with fail; go_roundw; (case rel => exact ⟨m + 1, by omega, by go_num, congrArg (Value.int .i64) (bestI_take HX.out K.out), (below_drewN (HB.out.alloc zb (.cells #[.int .i64 (R m 0), .int .i64 (R m 1), .int .i64 (R m 2), .int .i64 (R m 3), .int .i64 (R m 4), .int .i64 (R m 5), .slice (NA m) (Nn m) (Nc m)] 119)) _), (X1.out.alloc _).drewN _⟩); (case measure => simp [intOf]; omega)
              · have p4 := HP.out k (by omega)
                have a5 : decide ((k : Int) < 0) = false := by simp
                have hk0 : (0 : Int) ≤ (k : Int) := by omega
                have hkn : (k : Int) < (n : Int) := by omega
                clear HP
                rcases Bool.eq_false_or_eq_true (decide (R k 4 < R m 4)) with a6 | a6
                · have K := Lib.hid (show takesB R nm t j k m = true by simp only [takesB, a1, a2, a3, a4, a5, Int.toNat_natCast, a6, Bool.true_and, Bool.false_or])
                  go_wp2_with fail; go_big_quiet (fail); go_wp2_with fail; go_roundw; (case rel => exact ⟨m + 1, by omega, by go_num, congrArg (Value.int .i64) (bestI_take HX.out K.out), (below_drewN (HB.out.alloc zb (.cells #[.int .i64 (R m 0), .int .i64 (R m 1), .int .i64 (R m 2), .int .i64 (R m 3), .int .i64 (R m 4), .int .i64 (R m 5), .slice (NA m) (Nn m) (Nc m)] 119)) _), (X1.out.alloc _).drewN _⟩); (case measure => simp [intOf]; omega)
                · have K := Lib.hid (show takesB R nm t j k m = false by simp only [takesB, a5, Int.toNat_natCast, a6, Bool.and_false, Bool.or_false])
                  go_wp2_with fail; go_big_quiet (fail); go_wp2_with fail; go_roundw; (case rel => exact ⟨m + 1, by omega, by go_num, congrArg (Value.int .i64) (bestI_leave HX.out K.out), (below_drewN (HB.out.alloc zb (.cells #[.int .i64 (R m 0), .int .i64 (R m 1), .int .i64 (R m 2), .int .i64 (R m 3), .int .i64 (R m 4), .int .i64 (R m 5), .slice (NA m) (Nn m) (Nc m)] 119)) _), (X1.out.alloc _).drewN _⟩); (case measure => simp [intOf]; omega)
            · have K := Lib.hid (show takesB R nm t j bx m = false by simp only [takesB, a4, Bool.false_and, Bool.and_false])
              clear HP
              go_wp2_with fail; go_big_quiet (fail); go_wp2_with fail; go_roundw; (case rel => exact ⟨m + 1, by omega, by go_num, congrArg (Value.int .i64) (bestI_leave HX.out K.out), (below_drewN (HB.out.alloc zb (.cells #[.int .i64 (R m 0), .int .i64 (R m 1), .int .i64 (R m 2), .int .i64 (R m 3), .int .i64 (R m 4), .int .i64 (R m 5), .slice (NA m) (Nn m) (Nc m)] 119)) _), (X1.out.alloc _).drewN _⟩); (case measure => simp [intOf]; omega)
          · have K := Lib.hid (show takesB R nm t j bx m = false by simp only [takesB, a3, Bool.false_and, Bool.and_false])
            clear HP
            go_wp2_with fail; go_big_quiet (fail); go_wp2_with fail; go_roundw; (case rel => exact ⟨m + 1, by omega, by go_num, congrArg (Value.int .i64) (bestI_leave HX.out K.out), (below_drewN (HB.out.alloc zb (.cells #[.int .i64 (R m 0), .int .i64 (R m 1), .int .i64 (R m 2), .int .i64 (R m 3), .int .i64 (R m 4), .int .i64 (R m 5), .slice (NA m) (Nn m) (Nc m)] 119)) _), (X1.out.alloc _).drewN _⟩); (case measure => simp [intOf]; omega)
        · have K := Lib.hid (show takesB R nm t j bx m = false by simp only [takesB, a2, Bool.false_and, Bool.and_false])
          clear HP
          go_wp2_with fail; go_big_quiet (fail); go_wp2_with fail; go_roundw; (case rel => exact ⟨m + 1, by omega, by go_num, congrArg (Value.int .i64) (bestI_leave HX.out K.out), (below_drewN (HB.out.alloc zb (.cells #[.int .i64 (R m 0), .int .i64 (R m 1), .int .i64 (R m 2), .int .i64 (R m 3), .int .i64 (R m 4), .int .i64 (R m 5), .slice (NA m) (Nn m) (Nc m)] 119)) _), (X1.out.alloc _).drewN _⟩); (case measure => simp [intOf]; omega)
      · have K := Lib.hid (show takesB R nm t j bx m = false by simp only [takesB, a1, Bool.false_and])
        clear HP
        go_wp2_with fail; go_big_quiet (fail); go_wp2_with fail; go_roundw; (case rel => exact ⟨m + 1, by omega, by go_num, congrArg (Value.int .i64) (bestI_leave HX.out K.out), (below_drewN (HB.out.alloc zb (.cells #[.int .i64 (R m 0), .int .i64 (R m 1), .int .i64 (R m 2), .int .i64 (R m 3), .int .i64 (R m 4), .int .i64 (R m 5), .slice (NA m) (Nn m) (Nc m)] 119)) _), (X1.out.alloc _).drewN _⟩); (case measure => simp [intOf]; omega)
    · obtain rfl : m = n := by omega
      have HE := Lib.hid (bookOk_any A m cap R NA Nn Nc NF wr (by omega) hcap (HR.out.kept hbw))
      go_wp2_with (go_at_call 42; (with_reducible refine HE.out.mono ?_); rintro e w1 ⟨rfl, hb1⟩)
      have b2 := hbw.trans (hb1.mono zb)
      go_ret
      exact ⟨rfl, b2⟩
end Go.Proofs.Ytgfcmeiffhffaaa
