/- Contracts of cmp.Compare at int and of the order by effective months. -/
import Derived.Test.YtoebibgkpmppdaaRec
import Derived.Test.YtoebibgkpmppdaaInsP
import Derived.BigQuiet
import Derived.Deep.QuietTactic
import Derived.Outline
namespace Go.Proofs.Ytoebibgkpmppdaa
open Go.RowKit

theorem isNaN_any (a : Int) (w : World) : Calls Try.prog 59 #[.int .i64 a] w fun e w' => e = .returned (.bool false) ∧ w = w' := by
  go_enter Try.func59, Try.ntmps59
  go_wp2
  go_ret
  exact ⟨by simp, rfl⟩
theorem compare_any (a b : Int) (w : World) : Calls Try.prog 53 #[.int .i64 a, .int .i64 b] w fun e w' => e = .returned (.int .i64 (cmpI a b)) ∧ w = w' := by
  by_cases h1 : a < b
  · go_enter Try.func53, Try.ntmps53
    go_wp2_with (first | (go_at_call 59; (with_reducible refine (isNaN_any a _).mono ?_); rintro e w' ⟨rfl, rfl⟩) | (go_at_call 59; (with_reducible refine (isNaN_any b _).mono ?_); rintro e w' ⟨rfl, rfl⟩))
    go_ret
    exact ⟨ret_int (by unfold cmpI; rw [if_pos (by omega)]), rfl⟩
  · by_cases h2 : b < a
    · go_enter Try.func53, Try.ntmps53
      go_wp2_with (first | (go_at_call 59; (with_reducible refine (isNaN_any a _).mono ?_); rintro e w' ⟨rfl, rfl⟩) | (go_at_call 59; (with_reducible refine (isNaN_any b _).mono ?_); rintro e w' ⟨rfl, rfl⟩))
      go_ret
      exact ⟨ret_int (by unfold cmpI; rw [if_neg (by omega), if_pos (by omega)]), rfl⟩
    · go_enter Try.func53, Try.ntmps53
      go_wp2_with (first | (go_at_call 59; (with_reducible refine (isNaN_any a _).mono ?_); rintro e w' ⟨rfl, rfl⟩) | (go_at_call 59; (with_reducible refine (isNaN_any b _).mono ?_); rintro e w' ⟨rfl, rfl⟩))
      go_ret
      exact ⟨ret_int (by unfold cmpI; rw [if_neg (by omega), if_neg (by omega)]), rfl⟩
/-- The month of effect of order i (told by its number). -/
def effK (F : Nat → Nat → Int) (x : Int) : Int := F x.toNat 0
end Go.Proofs.Ytoebibgkpmppdaa
