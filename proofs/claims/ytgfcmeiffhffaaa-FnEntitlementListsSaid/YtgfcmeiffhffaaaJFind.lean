/- Plain words: all of the first n, the first of the first n, sums. -/
import Derived.Test.YtgfcmeiffhffaaaRows
import Derived.WalkKit
import Derived.WalkSpells
import Derived.Lib.Hide
import Derived.Deep.QuietTactic
import Derived.BigQuiet
import Derived.Deep.RegionWith
namespace Go.Proofs.Ytgfcmeiffhffaaa
open Go.RowKit

def inB (n lo hi : Int) : Bool := decide (lo ≤ n) && decide (n ≤ hi)
theorem inB_true {n lo hi : Int} : inB n lo hi = true ↔ lo ≤ n ∧ n ≤ hi := by simp [inB]
theorem inB_false {n lo hi : Int} : inB n lo hi = false ↔ ¬ (lo ≤ n ∧ n ≤ hi) := by simp [inB]
theorem ret_bool {a b : Bool} (h : a = b) : Ending.returned (.bool a) = .returned (.bool b) := by rw [h]
theorem ret_int {k : IntKind} {a b : Int} (h : a = b) : Ending.returned (.int k a) = .returned (.int k b) := by rw [h]
theorem bcell {W w1 : World} (hb : Below W.heap.size W w1) : (∀ b o, b < W.heap.size → w1.cell? ⟨b, o, none⟩ = W.cell? ⟨b, o, none⟩) ∧ (∀ b o, b < W.heap.size → w1.frozen? ⟨b, o, none⟩ = W.frozen? ⟨b, o, none⟩) :=
  ⟨fun b o h => hb.cell (p := ⟨b, o, none⟩) h, fun b o h => hb.frozen (p := ⟨b, o, none⟩) h⟩

theorem below_step {B B' : Nat} {a b c : World} (k : Below B' b c) (hB : B ≤ B') (h : Below B a b) : Below B a c := h.trans (k.mono hB)

theorem within_any (n lo hi : Int) (w : World) : Calls Try.prog 59 #[.int .i64 n, .int .i64 lo, .int .i64 hi] w fun e w' => e = .returned (.bool (inB n lo hi)) ∧ w = w' := by
  go_enter Try.func59, Try.ntmps59
  go_wp2
  all_goals go_ret
  all_goals exact ⟨ret_bool (by rw [Bool.eq_iff_iff]; simp [inB]; omega), rfl⟩
theorem l01In_any (n lo hi : Int) (w : World) : Calls Try.prog 55 #[.int .i64 n, .int .i64 lo, .int .i64 hi] w fun e w' => e = .returned (.bool (inB n lo hi)) ∧ w = w' := by
  go_enter Try.func55, Try.ntmps55
  go_wp2
  all_goals go_ret
  all_goals exact ⟨ret_bool (by rw [Bool.eq_iff_iff]; simp [inB]; omega), rfl⟩
def bandOkB (l h : Int) : Bool := decide (0 ≤ l) && decide (l ≤ h) && decide (h ≤ 1000000000000000)
theorem bandOkB_true {l h : Int} : bandOkB l h = true ↔ 0 ≤ l ∧ l ≤ h ∧ h ≤ 1000000000000000 := by simp [bandOkB, and_assoc]
def bandWithinB (al ah bl bh : Int) : Bool := bandOkB al ah && bandOkB bl bh && decide (bl ≤ al) && decide (ah ≤ bh)
def transferI (p l h : Int) : Int := if bandOkB l h = true ∧ h ≤ 1000000000000 ∧ inB p 0 1000000 = true then p * (l + h) / 2000000000 else 0
def transferB (p l h : Int) : Bool := bandOkB l h && decide (h ≤ 1000000000000) && inB p 0 1000000
end Go.Proofs.Ytgfcmeiffhffaaa
namespace Go.Proofs.Ytgfcmeiffhffaaa

/-- Does p hold of all numbers below n? -/
def allB (p : Nat → Bool) : Nat → Bool
  | 0 => true
  | n + 1 => allB p n && p n
theorem allB_iff {p : Nat → Bool} : ∀ {n : Nat}, allB p n = true ↔ ∀ i, i < n → p i = true
  | 0 => by simp [allB]
  | n + 1 => by
    simp only [allB, Bool.and_eq_true, allB_iff (n := n)]
    constructor
    · rintro ⟨h1, h2⟩ i hi
      rcases Nat.lt_or_ge i n with h | h
      · exact h1 i h
      · obtain rfl : i = n := by omega
        exact h2
    · exact fun h => ⟨fun i hi => h i (by omega), h n (by omega)⟩
theorem allB_false {p : Nat → Bool} {n k : Nat} (hk : k < n) (h : p k = false) : allB p n = false := by
  rw [Bool.eq_false_iff]
  intro h'
  rw [allB_iff.1 h' k hk] at h
  cases h
theorem allB_congr {p q : Nat → Bool} {n : Nat} (h : ∀ i, i < n → p i = q i) : allB p n = allB q n := by
  rw [Bool.eq_iff_iff, allB_iff, allB_iff]
  exact ⟨fun k i hi => by rw [← h i hi]; exact k i hi, fun k i hi => by rw [h i hi]; exact k i hi⟩
/-- The first number below n of which p holds; -1 where there is none. -/
def findI (p : Nat → Bool) (n : Nat) : Int := match (List.range n).find? p with | some i => i | none => -1
theorem findI_hit {p : Nat → Bool} {n k : Nat} (h : ∀ j, j < k → p j = false) (hk : k < n) (hp : p k = true) : findI p n = k := by
  have : (List.range n).find? p = some k := by
    rw [List.find?_range_eq_some]
    exact ⟨hp, List.mem_range.2 hk, fun j hj => by rw [h j hj]; rfl⟩
  simp [findI, this]
theorem findI_none {p : Nat → Bool} {n : Nat} (h : ∀ j, j < n → p j = false) : findI p n = -1 := by
  have : (List.range n).find? p = none := by
    rw [List.find?_eq_none]
    intro x hx
    rw [h x (List.mem_range.1 hx)]
    simp
  simp [findI, this]
theorem findI_cases (p : Nat → Bool) (n : Nat) : (findI p n = -1 ∧ ∀ j, j < n → p j = false) ∨ ∃ k : Nat, findI p n = k ∧ k < n ∧ p k = true ∧ ∀ j, j < k → p j = false := by
  rcases h : (List.range n).find? p with _ | k
  · refine .inl ⟨by simp [findI, h], fun j hj => ?_⟩
    have := List.find?_eq_none.1 h j (List.mem_range.2 hj)
    simpa using this
  · obtain ⟨h1, h2, h3⟩ := List.find?_range_eq_some.1 h
    exact .inr ⟨k, by simp [findI, h], List.mem_range.1 h2, h1, fun j hj => by simpa using h3 j hj⟩
/-- The sum of f 0, .., f (n-1). -/
def sumI (f : Nat → Int) : Nat → Int
  | 0 => 0
  | n + 1 => sumI f n + f n
theorem sumI_bd {f : Nat → Int} {lo hi : Int} : ∀ {n : Nat}, (∀ i, i < n → lo ≤ f i ∧ f i ≤ hi) → lo * n ≤ sumI f n ∧ sumI f n ≤ hi * n
  | 0, _ => by simp [sumI]
  | n + 1, h => by
    obtain ⟨a, b⟩ := sumI_bd (n := n) (fun i hi => h i (by omega))
    obtain ⟨c, d⟩ := h n (by omega)
    simp only [sumI, Int.natCast_add, Int.mul_add]
    constructor <;> simp <;> omega
end Go.Proofs.Ytgfcmeiffhffaaa
