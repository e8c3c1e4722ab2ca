/- Contract of isSpan. -/
import Derived.Test.YtgfcmeiffhffaaaJFind
namespace Go.Proofs.Ytgfcmeiffhffaaa
open Go.RowKit

def spanB (a b : Int) : Bool := decide (0 ≤ a) && decide (a < b) && decide (b ≤ 3600)
theorem spanB_true {a b : Int} : spanB a b = true ↔ 0 ≤ a ∧ a < b ∧ b ≤ 3600 := by
  unfold spanB
  simp only [Bool.and_eq_true, decide_eq_true_eq]
  omega
theorem spanB_false {a b : Int} (h : spanB a b = false) : ¬ (0 ≤ a ∧ a < b ∧ b ≤ 3600) := fun h' => by
  rw [spanB_true.2 h'] at h
  cases h
theorem isSpan_any (a b : Int) (w : World) : Calls Try.prog 60 #[.int .i64 a, .int .i64 b] w fun e w' => e = .returned (.bool (spanB a b)) ∧ w = w' := by
  go_enter Try.func60, Try.ntmps60
  go_wp2
  all_goals (go_ret; refine ⟨ret_bool ?_, rfl⟩; first | (symm; exact spanB_true.2 (by omega)) | (symm; rw [Bool.eq_false_iff]; intro h; have := spanB_true.1 h; omega) | (rw [Bool.eq_iff_iff, spanB_true, decide_eq_true_eq]; omega))
end Go.Proofs.Ytgfcmeiffhffaaa
