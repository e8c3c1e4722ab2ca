/- Contracts of the range test, of the bands' functions and of the reference's. -/
import Derived.Test.YtjmibbjachgofaaRows
import Derived.WalkKit
import Derived.WalkSpells
import Derived.Lib.Hide
import Derived.Deep.QuietTactic
import Derived.BigQuiet
import Derived.Deep.RegionWith
namespace Go.Proofs.Ytjmibbjachgofaa
open Go.RowKit

def inB (n lo hi : Int) : Bool := decide (lo ≤ n) && decide (n ≤ hi)
theorem inB_true {n lo hi : Int} : inB n lo hi = true ↔ lo ≤ n ∧ n ≤ hi := by simp [inB]
theorem inB_false {n lo hi : Int} : inB n lo hi = false ↔ ¬ (lo ≤ n ∧ n ≤ hi) := by simp [inB]
theorem ret_bool {a b : Bool} (h : a = b) : Ending.returned (.bool a) = .returned (.bool b) := by rw [h]
theorem ret_int {k : IntKind} {a b : Int} (h : a = b) : Ending.returned (.int k a) = .returned (.int k b) := by rw [h]
theorem bcell {W w1 : World} (hb : Below W.heap.size W w1) : (∀ b o, b < W.heap.size → w1.cell? ⟨b, o, none⟩ = W.cell? ⟨b, o, none⟩) ∧ (∀ b o, b < W.heap.size → w1.frozen? ⟨b, o, none⟩ = W.frozen? ⟨b, o, none⟩) :=
  ⟨fun b o h => hb.cell (p := ⟨b, o, none⟩) h, fun b o h => hb.frozen (p := ⟨b, o, none⟩) h⟩

theorem below_step {B B' : Nat} {a b c : World} (k : Below B' b c) (hB : B ≤ B') (h : Below B a b) : Below B a c := h.trans (k.mono hB)

theorem within_any (n lo hi : Int) (w : World) : Calls Try.prog 55 #[.int .i64 n, .int .i64 lo, .int .i64 hi] w fun e w' => e = .returned (.bool (inB n lo hi)) ∧ w = w' := by
  go_enter Try.func55, Try.ntmps55
  go_wp2
  all_goals go_ret
  all_goals exact ⟨ret_bool (by rw [Bool.eq_iff_iff]; simp [inB]; omega), rfl⟩
theorem l01In_any (n lo hi : Int) (w : World) : Calls Try.prog 54 #[.int .i64 n, .int .i64 lo, .int .i64 hi] w fun e w' => e = .returned (.bool (inB n lo hi)) ∧ w = w' := by
  go_enter Try.func54, Try.ntmps54
  go_wp2
  all_goals go_ret
  all_goals exact ⟨ret_bool (by rw [Bool.eq_iff_iff]; simp [inB]; omega), rfl⟩
def bandOkB (l h : Int) : Bool := decide (0 ≤ l) && decide (l ≤ h) && decide (h ≤ 1000000000000000)
theorem bandOkB_true {l h : Int} : bandOkB l h = true ↔ 0 ≤ l ∧ l ≤ h ∧ h ≤ 1000000000000000 := by simp [bandOkB, and_assoc]
theorem bandOk_any (l h : Int) (w : World) : Calls Try.prog 23 #[.agg #[.int .i64 l, .int .i64 h]] w fun e w' => e = .returned (.bool (bandOkB l h)) ∧ Below w.heap.size w w' := by
  by_cases h1 : 0 ≤ l <;> by_cases h2 : l ≤ h
  all_goals
    go_enter Try.func23, Try.ntmps23
    go_wp2
    go_ret
    exact ⟨ret_bool (by rw [Bool.eq_iff_iff]; simp [bandOkB]; omega), (Below.refl _ _).alloc (Nat.le_refl _) _⟩
theorem sbandOk_any (l h : Int) (w : World) : Calls Try.prog 57 #[.agg #[.int .i64 l, .int .i64 h]] w fun e w' => e = .returned (.bool (bandOkB l h)) ∧ Below w.heap.size w w' := by
  by_cases h1 : 0 ≤ l <;> by_cases h2 : l ≤ h
  all_goals
    go_enter Try.func57, Try.ntmps57
    go_wp2
    go_ret
    exact ⟨ret_bool (by rw [Bool.eq_iff_iff]; simp [bandOkB]; omega), (Below.refl _ _).alloc (Nat.le_refl _) _⟩
theorem eqBand_same (l h : Int) (w : World) : Calls Try.prog 50 #[.agg #[.int .i64 l, .int .i64 h], .agg #[.int .i64 l, .int .i64 h]] w fun e w' => e = .returned (.bool true) ∧ Below w.heap.size w w' := by
  go_enter Try.func50, Try.ntmps50
  go_wp2
  go_ret
  exact ⟨rfl, by (repeat (first | with_reducible exact Below.refl _ _ | with_reducible refine Below.drew ?_ | (with_reducible refine Below.alloc ?_ ?hsz _; case hsz => ((try simp) <;> (try omega))) | (with_reducible refine Below.setCell ?_ ?hsz _; case hsz => ((try simp) <;> (try omega))) | (with_reducible refine below_step (by with_reducible assumption) ?hsz ?_; case hsz => ((try simp) <;> (try omega)))))⟩
def bandWithinB (al ah bl bh : Int) : Bool := bandOkB al ah && bandOkB bl bh && decide (bl ≤ al) && decide (ah ≤ bh)
theorem bandWithin_any (al ah bl bh : Int) (w : World) : Calls Try.prog 29 #[.agg #[.int .i64 al, .int .i64 ah], .agg #[.int .i64 bl, .int .i64 bh]] w fun e w' => e = .returned (.bool (bandWithinB al ah bl bh)) ∧ Below w.heap.size w w' := by
  rcases Bool.eq_false_or_eq_true (bandOkB al ah) with h1 | h1 <;> rcases Bool.eq_false_or_eq_true (bandOkB bl bh) with h2 | h2 <;> by_cases h3 : bl ≤ al
  all_goals
    go_enter Try.func29, Try.ntmps29
    go_wp2_with (first | (go_at_call 23; (with_reducible refine (bandOk_any al ah _).mono ?_); rintro e w1 ⟨rfl, hb1⟩; obtain ⟨hc1, hf1⟩ := bcell hb1; (try simp only [World.size_drew] at hc1 hf1); have hz1 := hb1.size; (try simp at hz1); (try have q1_0 : w.heap.size < w1.heap.size := by omega); (try have q1_1 : w.heap.size + 1 < w1.heap.size := by omega); (try have q1_2 : w.heap.size + 2 < w1.heap.size := by omega); (try have q1_3 : w.heap.size + 3 < w1.heap.size := by omega); (try have q1_4 : w.heap.size + 4 < w1.heap.size := by omega); (try have q1_0_0 : w0.heap.size < w1.heap.size := by omega); (try have q1_0_1 : w0.heap.size + 1 < w1.heap.size := by omega); (try have q1_2_0 : w2.heap.size < w1.heap.size := by omega); (try have q1_2_1 : w2.heap.size + 1 < w1.heap.size := by omega); (try have q1_3_0 : w3.heap.size < w1.heap.size := by omega); (try have q1_3_1 : w3.heap.size + 1 < w1.heap.size := by omega); (try have q1_4_0 : w4.heap.size < w1.heap.size := by omega); (try have q1_4_1 : w4.heap.size + 1 < w1.heap.size := by omega); (try have q1_5_0 : w5.heap.size < w1.heap.size := by omega); (try have q1_5_1 : w5.heap.size + 1 < w1.heap.size := by omega); (try have q1_6_0 : w6.heap.size < w1.heap.size := by omega); (try have q1_6_1 : w6.heap.size + 1 < w1.heap.size := by omega); (try have u1_b : b < w1.heap.size := by omega); (try have u1_q : q < w1.heap.size := by omega); (try have u1_g : g < w1.heap.size := by omega); (try have u1_g1 : g1 < w1.heap.size := by omega); (try have u1_g2 : g2 < w1.heap.size := by omega); (try have u1_g3 : g3 < w1.heap.size := by omega); (try have u1_g4 : g4 < w1.heap.size := by omega); (try have u1_g5 : g5 < w1.heap.size := by omega)) | (go_at_call 23; (with_reducible refine (bandOk_any bl bh _).mono ?_); rintro e w2 ⟨rfl, hb2⟩; obtain ⟨hc2, hf2⟩ := bcell hb2; (try simp only [World.size_drew] at hc2 hf2); have hz2 := hb2.size; (try simp at hz2); (try have q2_0 : w.heap.size < w2.heap.size := by omega); (try have q2_1 : w.heap.size + 1 < w2.heap.size := by omega); (try have q2_2 : w.heap.size + 2 < w2.heap.size := by omega); (try have q2_3 : w.heap.size + 3 < w2.heap.size := by omega); (try have q2_4 : w.heap.size + 4 < w2.heap.size := by omega); (try have q2_0_0 : w0.heap.size < w2.heap.size := by omega); (try have q2_0_1 : w0.heap.size + 1 < w2.heap.size := by omega); (try have q2_1_0 : w1.heap.size < w2.heap.size := by omega); (try have q2_1_1 : w1.heap.size + 1 < w2.heap.size := by omega); (try have q2_3_0 : w3.heap.size < w2.heap.size := by omega); (try have q2_3_1 : w3.heap.size + 1 < w2.heap.size := by omega); (try have q2_4_0 : w4.heap.size < w2.heap.size := by omega); (try have q2_4_1 : w4.heap.size + 1 < w2.heap.size := by omega); (try have q2_5_0 : w5.heap.size < w2.heap.size := by omega); (try have q2_5_1 : w5.heap.size + 1 < w2.heap.size := by omega); (try have q2_6_0 : w6.heap.size < w2.heap.size := by omega); (try have q2_6_1 : w6.heap.size + 1 < w2.heap.size := by omega); (try have u2_b : b < w2.heap.size := by omega); (try have u2_q : q < w2.heap.size := by omega); (try have u2_g : g < w2.heap.size := by omega); (try have u2_g1 : g1 < w2.heap.size := by omega); (try have u2_g2 : g2 < w2.heap.size := by omega); (try have u2_g3 : g3 < w2.heap.size := by omega); (try have u2_g4 : g4 < w2.heap.size := by omega); (try have u2_g5 : g5 < w2.heap.size := by omega)))
    go_ret
    exact ⟨ret_bool (by rw [Bool.eq_iff_iff]; simp [bandWithinB, h1, h2]; try omega), by (repeat (first | with_reducible exact Below.refl _ _ | with_reducible refine Below.drew ?_ | (with_reducible refine Below.alloc ?_ ?hsz _; case hsz => ((try simp) <;> (try omega))) | (with_reducible refine Below.setCell ?_ ?hsz _; case hsz => ((try simp) <;> (try omega))) | (with_reducible refine below_step (by with_reducible assumption) ?hsz ?_; case hsz => ((try simp) <;> (try omega)))))⟩
def transferI (p l h : Int) : Int := if bandOkB l h = true ∧ h ≤ 1000000000000 ∧ inB p 0 1000000 = true then p * (l + h) / 2000000000 else 0
def transferB (p l h : Int) : Bool := bandOkB l h && decide (h ≤ 1000000000000) && inB p 0 1000000
theorem transfer_any (p l h : Int) (w : World) : Calls Try.prog 20 #[.int .i64 p, .agg #[.int .i64 l, .int .i64 h]] w fun e w' => e = .returned (.tuple #[.int .i64 (transferI p l h), .bool (transferB p l h)]) ∧ Below w.heap.size w w' := by
  rcases Bool.eq_false_or_eq_true (bandOkB l h) with h1 | h1 <;> by_cases h2 : h ≤ 1000000000000 <;> rcases Bool.eq_false_or_eq_true (inB p 0 1000000) with h3 | h3
  · have b1 := bandOkB_true.1 h1
    have b2 := inB_true.1 h3
    obtain ⟨b3, b4, b5⟩ := b1
    obtain ⟨b6, b7⟩ := b2
    have b8 : 0 ≤ p * (l + h) := Int.mul_nonneg b6 (by omega)
    have b9 : p * (l + h) ≤ 1000000 * (l + h) := Int.mul_le_mul_of_nonneg_right b7 (by omega)
    go_enter Try.func20, Try.ntmps20
    go_wp2_with (first | (go_at_call 23; (with_reducible refine (bandOk_any l h _).mono ?_); rintro e w1 ⟨rfl, hb1⟩; obtain ⟨hc1, hf1⟩ := bcell hb1; (try simp only [World.size_drew] at hc1 hf1); have hz1 := hb1.size; (try simp at hz1); (try have q1_0 : w.heap.size < w1.heap.size := by omega); (try have q1_1 : w.heap.size + 1 < w1.heap.size := by omega); (try have q1_2 : w.heap.size + 2 < w1.heap.size := by omega); (try have q1_3 : w.heap.size + 3 < w1.heap.size := by omega); (try have q1_4 : w.heap.size + 4 < w1.heap.size := by omega); (try have q1_0_0 : w0.heap.size < w1.heap.size := by omega); (try have q1_0_1 : w0.heap.size + 1 < w1.heap.size := by omega); (try have q1_2_0 : w2.heap.size < w1.heap.size := by omega); (try have q1_2_1 : w2.heap.size + 1 < w1.heap.size := by omega); (try have q1_3_0 : w3.heap.size < w1.heap.size := by omega); (try have q1_3_1 : w3.heap.size + 1 < w1.heap.size := by omega); (try have q1_4_0 : w4.heap.size < w1.heap.size := by omega); (try have q1_4_1 : w4.heap.size + 1 < w1.heap.size := by omega); (try have q1_5_0 : w5.heap.size < w1.heap.size := by omega); (try have q1_5_1 : w5.heap.size + 1 < w1.heap.size := by omega); (try have q1_6_0 : w6.heap.size < w1.heap.size := by omega); (try have q1_6_1 : w6.heap.size + 1 < w1.heap.size := by omega); (try have u1_b : b < w1.heap.size := by omega); (try have u1_q : q < w1.heap.size := by omega); (try have u1_g : g < w1.heap.size := by omega); (try have u1_g1 : g1 < w1.heap.size := by omega); (try have u1_g2 : g2 < w1.heap.size := by omega); (try have u1_g3 : g3 < w1.heap.size := by omega); (try have u1_g4 : g4 < w1.heap.size := by omega); (try have u1_g5 : g5 < w1.heap.size := by omega)) | (go_at_call 55; (with_reducible refine (within_any p 0 1000000 _).mono ?_); rintro e w' ⟨rfl, rfl⟩))
    go_ret2
    exact ⟨by simp [transferI, transferB, h1, h2, h3] <;> omega, by (repeat (first | with_reducible exact Below.refl _ _ | with_reducible refine Below.drew ?_ | (with_reducible refine Below.alloc ?_ ?hsz _; case hsz => ((try simp) <;> (try omega))) | (with_reducible refine Below.setCell ?_ ?hsz _; case hsz => ((try simp) <;> (try omega))) | (with_reducible refine below_step (by with_reducible assumption) ?hsz ?_; case hsz => ((try simp) <;> (try omega)))))⟩
  all_goals
    go_enter Try.func20, Try.ntmps20
    go_wp2_with (first | (go_at_call 23; (with_reducible refine (bandOk_any l h _).mono ?_); rintro e w1 ⟨rfl, hb1⟩; obtain ⟨hc1, hf1⟩ := bcell hb1; (try simp only [World.size_drew] at hc1 hf1); have hz1 := hb1.size; (try simp at hz1); (try have q1_0 : w.heap.size < w1.heap.size := by omega); (try have q1_1 : w.heap.size + 1 < w1.heap.size := by omega); (try have q1_2 : w.heap.size + 2 < w1.heap.size := by omega); (try have q1_3 : w.heap.size + 3 < w1.heap.size := by omega); (try have q1_4 : w.heap.size + 4 < w1.heap.size := by omega); (try have q1_0_0 : w0.heap.size < w1.heap.size := by omega); (try have q1_0_1 : w0.heap.size + 1 < w1.heap.size := by omega); (try have q1_2_0 : w2.heap.size < w1.heap.size := by omega); (try have q1_2_1 : w2.heap.size + 1 < w1.heap.size := by omega); (try have q1_3_0 : w3.heap.size < w1.heap.size := by omega); (try have q1_3_1 : w3.heap.size + 1 < w1.heap.size := by omega); (try have q1_4_0 : w4.heap.size < w1.heap.size := by omega); (try have q1_4_1 : w4.heap.size + 1 < w1.heap.size := by omega); (try have q1_5_0 : w5.heap.size < w1.heap.size := by omega); (try have q1_5_1 : w5.heap.size + 1 < w1.heap.size := by omega); (try have q1_6_0 : w6.heap.size < w1.heap.size := by omega); (try have q1_6_1 : w6.heap.size + 1 < w1.heap.size := by omega); (try have u1_b : b < w1.heap.size := by omega); (try have u1_q : q < w1.heap.size := by omega); (try have u1_g : g < w1.heap.size := by omega); (try have u1_g1 : g1 < w1.heap.size := by omega); (try have u1_g2 : g2 < w1.heap.size := by omega); (try have u1_g3 : g3 < w1.heap.size := by omega); (try have u1_g4 : g4 < w1.heap.size := by omega); (try have u1_g5 : g5 < w1.heap.size := by omega)) | (go_at_call 55; (with_reducible refine (within_any p 0 1000000 _).mono ?_); rintro e w' ⟨rfl, rfl⟩))
    go_ret2
    exact ⟨by simp [transferI, transferB, h1, h2, h3] <;> omega, by (repeat (first | with_reducible exact Below.refl _ _ | with_reducible refine Below.drew ?_ | (with_reducible refine Below.alloc ?_ ?hsz _; case hsz => ((try simp) <;> (try omega))) | (with_reducible refine Below.setCell ?_ ?hsz _; case hsz => ((try simp) <;> (try omega))) | (with_reducible refine below_step (by with_reducible assumption) ?hsz ?_; case hsz => ((try simp) <;> (try omega)))))⟩
end Go.Proofs.Ytjmibbjachgofaa
