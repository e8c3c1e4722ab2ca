/- Contracts of MonthOk, of the program and of the reference. -/
import Derived.Test.YtebgkmmmjmipnaaBandW
namespace Go.Proofs.Ytebgkmmmjmipnaa
open Go.RowKit

theorem monthOk_any (n : Int) (w : World) : Calls Try.prog 36 #[.int .i64 n] w fun e w' => e = .returned (.bool (inB n 0 3599)) ∧ w = w' := by
  go_enter Try.func36, Try.ntmps36
  go_wp2_with (go_at_call 37; (with_reducible refine (within_any n 0 3599 _).mono ?_); rintro e w' ⟨rfl, rfl⟩)
  go_ret
  exact ⟨rfl, rfl⟩
theorem smonthOk_any (n : Int) (w : World) : Calls Try.prog 33 #[.int .i64 n] w fun e w' => e = .returned (.bool (inB n 0 3599)) ∧ w = w' := by
  go_enter Try.func33, Try.ntmps33
  go_wp2_with (go_at_call 34; (with_reducible refine (l01In_any n 0 3599 _).mono ?_); rintro e w' ⟨rfl, rfl⟩)
  go_ret
  exact ⟨rfl, rfl⟩
end Go.Proofs.Ytebgkmmmjmipnaa
