/- Contracts of the range test, of the bands' functions and of the reference's. -/
import Derived.Test.YtgfcmeiffhffaaaRows
import Derived.WalkKit
import Derived.WalkSpells
import Derived.Lib.Hide
import Derived.Deep.QuietTactic
import Derived.BigQuiet
import Derived.Deep.RegionWith
namespace Go.Proofs.Ytgfcmeiffhffaaa
open Go.RowKit

def inB (n lo hi : Int) : Bool := decide (lo ≤ n) && decide (n ≤ hi)
theorem inB_true {n lo hi : Int} : inB n lo hi = true ↔ lo ≤ n ∧ n ≤ hi := by simp [inB]
theorem inB_false {n lo hi : Int} : inB n lo hi = false ↔ ¬ (lo ≤ n ∧ n ≤ hi) := by simp [inB]
theorem ret_bool {a b : Bool} (h : a = b) : Ending.returned (.bool a) = .returned (.bool b) := by rw [h]
theorem ret_int {k : IntKind} {a b : Int} (h : a = b) : Ending.returned (.int k a) = .returned (.int k b) := by rw [h]
theorem bcell {W w1 : World} (hb : Below W.heap.size W w1) : (∀ b o, b < W.heap.size → w1.cell? ⟨b, o, none⟩ = W.cell? ⟨b, o, none⟩) ∧ (∀ b o, b < W.heap.size → w1.frozen? ⟨b, o, none⟩ = W.frozen? ⟨b, o, none⟩) :=
  ⟨fun b o h => hb.cell (p := ⟨b, o, none⟩) h, fun b o h => hb.frozen (p := ⟨b, o, none⟩) h⟩

theorem below_step {B B' : Nat} {a b c : World} (k : Below B' b c) (hB : B ≤ B') (h : Below B a b) : Below B a c := h.trans (k.mono hB)

theorem within_any (n lo hi : Int) (w : World) : Calls Try.prog 59 #[.int .i64 n, .int .i64 lo, .int .i64 hi] w fun e w' => e = .returned (.bool (inB n lo hi)) ∧ w = w' := by
  go_enter Try.func59, Try.ntmps59
  go_wp2
  all_goals go_ret
  all_goals exact ⟨ret_bool (by rw [Bool.eq_iff_iff]; simp [inB]; omega), rfl⟩
theorem l01In_any (n lo hi : Int) (w : World) : Calls Try.prog 55 #[.int .i64 n, .int .i64 lo, .int .i64 hi] w fun e w' => e = .returned (.bool (inB n lo hi)) ∧ w = w' := by
  go_enter Try.func55, Try.ntmps55
  go_wp2
  all_goals go_ret
  all_goals exact ⟨ret_bool (by rw [Bool.eq_iff_iff]; simp [inB]; omega), rfl⟩
def bandOkB (l h : Int) : Bool := decide (0 ≤ l) && decide (l ≤ h) && decide (h ≤ 1000000000000000)
theorem bandOkB_true {l h : Int} : bandOkB l h = true ↔ 0 ≤ l ∧ l ≤ h ∧ h ≤ 1000000000000000 := by simp [bandOkB, and_assoc]
def bandWithinB (al ah bl bh : Int) : Bool := bandOkB al ah && bandOkB bl bh && decide (bl ≤ al) && decide (ah ≤ bh)
def transferI (p l h : Int) : Int := if bandOkB l h = true ∧ h ≤ 1000000000000 ∧ inB p 0 1000000 = true then p * (l + h) / 2000000000 else 0
def transferB (p l h : Int) : Bool := bandOkB l h && decide (h ≤ 1000000000000) && inB p 0 1000000
end Go.Proofs.Ytgfcmeiffhffaaa
