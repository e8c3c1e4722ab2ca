/- Contracts of the program's MonthsIn, AgeAt, isEnd and whole. -/
import Derived.Outline
import Derived.Test.YtgfcmeiffhffaaaJRow
import Derived.Test.YtgfcmeiffhffaaaJMonth
import Derived.Test.YtgfcmeiffhffaaaJTabW
import Derived.Test.YtgfcmeiffhffaaaJRecApp
namespace Go.Proofs.Ytgfcmeiffhffaaa
open Go.RowKit

theorem isEnd_any (m : Int) (w : World) : Calls Try.prog 51 #[.int .i64 m] w fun e w' => e = .returned (.bool (inB m 0 3600)) ∧ w = w' := by
  go_enter Try.func51, Try.ntmps51
  go_wp2_with (go_at_call 59; (with_reducible refine (within_any m 0 3600 _).mono ?_); rintro e w' ⟨rfl, rfl⟩)
  go_ret
  exact ⟨rfl, rfl⟩
theorem wholeI_any (n : Int) (w : World) : Calls Try.prog 89 #[.int .i64 n] w fun e w' => e = .returned (.agg #[.int .i64 n, .int .i64 1]) ∧ Below w.heap.size w w' := by
  go_enter Try.func89, Try.ntmps89
  go_wp2
  exact bodyPost_ret (v := .agg #[.int .i64 n, .int .i64 1]) (by simp [results, Try.results89, go_sem, *]) rfl ⟨rfl, by (repeat (first | with_reducible exact Below.refl _ _ | with_reducible refine Below.drew ?_ | (with_reducible refine Below.alloc ?_ ?hsz _; case hsz => ((try simp) <;> (try omega))) | (with_reducible refine Below.setCell ?_ ?hsz _; case hsz => ((try simp) <;> (try omega))) | (with_reducible refine below_step (by with_reducible assumption) ?hsz ?_; case hsz => ((try simp) <;> (try omega)))))⟩
set_option maxHeartbeats 4000000 in
theorem ageAt_any (b m : Int) (b0 : 0 ≤ b) (h : b ≤ m) (m1 : m ≤ 3599) (w : World) : Calls Try.prog 90 #[.int .i64 b, .int .i64 m, .int .i64 1] w fun e w' => e = .returned (.int .i64 ((m - b) / 12)) ∧ w = w' := by
  have e1 : inB b 0 3599 = true := inB_true.2 ⟨b0, by omega⟩
  have e2 : inB m 0 3599 = true := inB_true.2 ⟨by omega, m1⟩
  have e3 : decide (m < b) = false := by simp; omega
  have e4 : (m - b).tdiv 12 = (m - b) / 12 := Int.tdiv_eq_ediv_of_nonneg (by omega)
  go_enter Try.func90, Try.ntmps90
  go_wp2_with (first | (go_at_call 28; (with_reducible refine (monthOk_any b _).mono ?_); rintro e w' ⟨rfl, rfl⟩) | (go_at_call 28; (with_reducible refine (monthOk_any m _).mono ?_); rintro e w' ⟨rfl, rfl⟩))
  go_ret
  exact ⟨rfl, rfl⟩
theorem row4 (w : World) (a b c d : Int) : Row (w.alloc (.cells #[.int .i64 a, .int .i64 b, .int .i64 c, .int .i64 d] 3)) .i64 (some ⟨w.heap.size, 0, none⟩) 4 (quad a b c d) := by
  have h := Box.made w 3 #[.int .i64 a, .int .i64 b, .int .i64 c, .int .i64 d]
  refine .inr ⟨w.heap.size, 0, rfl, h.lt, fun i hi => ?_⟩
  rcases (show i = 0 ∨ i = 1 ∨ i = 2 ∨ i = 3 by omega) with rfl | rfl | rfl | rfl
  · exact h.cell 0
  · exact h.cell 1
  · exact h.cell 2
  · exact h.cell 3
/-- How many of the months from f to t lie from lo to hi. -/
def monI (f t lo hi : Int) : Int := max 0 (min t hi - max f lo)
set_option maxHeartbeats 4000000 in
theorem monIn_any (f t lo hi : Int) (h1 : 0 ≤ f ∧ f ≤ 3600) (h2 : 0 ≤ t ∧ t ≤ 3600) (h3 : 0 ≤ lo ∧ lo ≤ 3600) (h4 : 0 ≤ hi ∧ hi ≤ 3600) (w : World) : Calls Try.prog 120 #[.int .i64 f, .int .i64 t, .int .i64 lo, .int .i64 hi] w fun e w' => e = .returned (.int .i64 (monI f t lo hi)) ∧ Below w.heap.size w w' := by
  have HK := Lib.hid (show allB (fun i => inB (quad f t lo hi i) 0 3600) 4 = true from allB_iff.2 fun i hi' => by
    rcases (show i = 0 ∨ i = 1 ∨ i = 2 ∨ i = 3 by omega) with rfl | rfl | rfl | rfl
    · exact inB_true.2 h1
    · exact inB_true.2 h2
    · exact inB_true.2 h3
    · exact inB_true.2 h4)
  have HW := Lib.hid (allWithin_any (some ⟨w.heap.size, 0, none⟩) 4 4 (quad f t lo hi) 0 3600 _ (by omega) (row4 w f t lo hi))
  rw [HK.out] at HW
  go_enter Try.func120, Try.ntmps120
  go_wp2_with fail
  with_reducible refine HW.out.mono ?_
  rintro e w1 ⟨rfl, hb1⟩
  clear HW HK
  go_wp2
  all_goals (have hbw := hb1; go_ret; exact ⟨ret_int (by simp only [monI]; (repeat' split at *) <;> omega), by (repeat (first | with_reducible exact Below.refl _ _ | with_reducible refine Below.drew ?_ | (with_reducible refine Below.alloc ?_ ?hsz _; case hsz => ((try simp) <;> (try omega))) | (with_reducible refine Below.setCell ?_ ?hsz _; case hsz => ((try simp) <;> (try omega))) | (with_reducible refine below_step (by with_reducible assumption) ?hsz ?_; case hsz => ((try simp) <;> (try omega)))))⟩)
end Go.Proofs.Ytgfcmeiffhffaaa
