/- Contracts of cmp.Compare at int and of the order by effective months. -/
import Derived.Test.YtebgkmmmjmipnaaRec
import Derived.Test.YtebgkmmmjmipnaaInsP
import Derived.BigQuiet
import Derived.Deep.QuietTactic
import Derived.Outline
namespace Go.Proofs.Ytebgkmmmjmipnaa
open Go.RowKit

theorem isNaN_any (a : Int) (w : World) : Calls Try.prog 50 #[.int .i64 a] w fun e w' => e = .returned (.bool false) ∧ w = w' := by
  go_enter Try.func50, Try.ntmps50
  go_wp2
  go_ret
  exact ⟨by simp, rfl⟩
theorem compare_any (a b : Int) (w : World) : Calls Try.prog 41 #[.int .i64 a, .int .i64 b] w fun e w' => e = .returned (.int .i64 (cmpI a b)) ∧ w = w' := by
  by_cases h1 : a < b
  · go_enter Try.func41, Try.ntmps41
    go_wp2_with (first | (go_at_call 50; (with_reducible refine (isNaN_any a _).mono ?_); rintro e w' ⟨rfl, rfl⟩) | (go_at_call 50; (with_reducible refine (isNaN_any b _).mono ?_); rintro e w' ⟨rfl, rfl⟩))
    go_ret
    exact ⟨ret_int (by unfold cmpI; rw [if_pos (by omega)]), rfl⟩
  · by_cases h2 : b < a
    · go_enter Try.func41, Try.ntmps41
      go_wp2_with (first | (go_at_call 50; (with_reducible refine (isNaN_any a _).mono ?_); rintro e w' ⟨rfl, rfl⟩) | (go_at_call 50; (with_reducible refine (isNaN_any b _).mono ?_); rintro e w' ⟨rfl, rfl⟩))
      go_ret
      exact ⟨ret_int (by unfold cmpI; rw [if_neg (by omega), if_pos (by omega)]), rfl⟩
    · go_enter Try.func41, Try.ntmps41
      go_wp2_with (first | (go_at_call 50; (with_reducible refine (isNaN_any a _).mono ?_); rintro e w' ⟨rfl, rfl⟩) | (go_at_call 50; (with_reducible refine (isNaN_any b _).mono ?_); rintro e w' ⟨rfl, rfl⟩))
      go_ret
      exact ⟨ret_int (by unfold cmpI; rw [if_neg (by omega), if_neg (by omega)]), rfl⟩
/-- The month of effect of order i (told by its number). -/
def effK (F : Nat → Nat → Int) (x : Int) : Int := F x.toNat 0
theorem byEff_any (A : Option Addr) (n cap : Nat) (F : Nat → Nat → Int) (b1 : Nat) (x y : Int) (w : World) (hr : Recs w 3 A n F) (h1 : w.cell? ⟨b1, 0, none⟩ = some (.slice A n cap)) (hx : 0 ≤ x ∧ x < n) (hy : 0 ≤ y ∧ y < n) :
    Calls Try.prog 40 #[.int .i64 x, .int .i64 y, .pointer (some ⟨b1, 0, none⟩)] w fun e w' => e = .returned (.int .i64 (cmpI (effK F x) (effK F y))) ∧ ∃ q, w' = w.drewN q := by
  obtain ⟨x0, x1⟩ := hx
  obtain ⟨y0, y1⟩ := hy
  obtain ⟨i, rfl⟩ := Int.eq_ofNat_of_zero_le x0
  obtain ⟨j, rfl⟩ := Int.eq_ofNat_of_zero_le y0
  obtain ⟨b, off, rfl, hb, c0, c1, c2⟩ := hr.at3 (show i < n by omega)
  obtain ⟨b', off', e, _, e0, e1, e2⟩ := hr.at3 (show j < n by omega)
  cases e
  clear hr c1 c2 e1 e2
  go_enter Try.func40, Try.ntmps40
  go_wp2_with fail
  go_big_quiet ((go_at_call 41; exact quiet_eq (compare_any (F i 0) (F j 0) _)))
  go_wp2
  go_ret
  exact ⟨rfl, _, rfl⟩
end Go.Proofs.Ytebgkmmmjmipnaa
