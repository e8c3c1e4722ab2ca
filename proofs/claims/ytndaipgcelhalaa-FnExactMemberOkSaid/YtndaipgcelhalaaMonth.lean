/- Contracts of MonthOk, of the program and of the reference. -/
import Derived.Test.YtndaipgcelhalaaBandW
namespace Go.Proofs.Ytndaipgcelhalaa
open Go.RowKit

theorem monthOk_any (n : Int) (w : World) : Calls Try.prog 16 #[.int .i64 n] w fun e w' => e = .returned (.bool (inB n 0 3599)) ∧ w = w' := by
  go_enter Try.func16, Try.ntmps16
  go_wp2_with (go_at_call 25; (with_reducible refine (within_any n 0 3599 _).mono ?_); rintro e w' ⟨rfl, rfl⟩)
  go_ret
  exact ⟨rfl, rfl⟩
theorem smonthOk_any (n : Int) (w : World) : Calls Try.prog 11 #[.int .i64 n] w fun e w' => e = .returned (.bool (inB n 0 3599)) ∧ w = w' := by
  go_enter Try.func11, Try.ntmps11
  go_wp2_with (go_at_call 21; (with_reducible refine (l01In_any n 0 3599 _).mono ?_); rintro e w' ⟨rfl, rfl⟩)
  go_ret
  exact ⟨rfl, rfl⟩
end Go.Proofs.Ytndaipgcelhalaa
