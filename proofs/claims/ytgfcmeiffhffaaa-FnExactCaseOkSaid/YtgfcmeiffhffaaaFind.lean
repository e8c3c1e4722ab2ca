/- Plain words: all of the first n, the first of the first n, sums. -/
import Derived.Test.YtgfcmeiffhffaaaBandW
namespace Go.Proofs.Ytgfcmeiffhffaaa

/-- Does p hold of all numbers below n? -/
def allB (p : Nat → Bool) : Nat → Bool
  | 0 => true
  | n + 1 => allB p n && p n
theorem allB_iff {p : Nat → Bool} : ∀ {n : Nat}, allB p n = true ↔ ∀ i, i < n → p i = true
  | 0 => by simp [allB]
  | n + 1 => by
    simp only [allB, Bool.and_eq_true, allB_iff (n := n)]
    constructor
    · rintro ⟨h1, h2⟩ i hi
      rcases Nat.lt_or_ge i n with h | h
      · exact h1 i h
      · obtain rfl : i = n := by omega
        exact h2
    · exact fun h => ⟨fun i hi => h i (by omega), h n (by omega)⟩
theorem allB_false {p : Nat → Bool} {n k : Nat} (hk : k < n) (h : p k = false) : allB p n = false := by
  rw [Bool.eq_false_iff]
  intro h'
  rw [allB_iff.1 h' k hk] at h
  cases h
theorem allB_congr {p q : Nat → Bool} {n : Nat} (h : ∀ i, i < n → p i = q i) : allB p n = allB q n := by
  rw [Bool.eq_iff_iff, allB_iff, allB_iff]
  exact ⟨fun k i hi => by rw [← h i hi]; exact k i hi, fun k i hi => by rw [h i hi]; exact k i hi⟩
/-- The first number below n of which p holds; -1 where there is none. -/
def findI (p : Nat → Bool) (n : Nat) : Int := match (List.range n).find? p with | some i => i | none => -1
theorem findI_hit {p : Nat → Bool} {n k : Nat} (h : ∀ j, j < k → p j = false) (hk : k < n) (hp : p k = true) : findI p n = k := by
  have : (List.range n).find? p = some k := by
    rw [List.find?_range_eq_some]
    exact ⟨hp, List.mem_range.2 hk, fun j hj => by rw [h j hj]; rfl⟩
  simp [findI, this]
theorem findI_none {p : Nat → Bool} {n : Nat} (h : ∀ j, j < n → p j = false) : findI p n = -1 := by
  have : (List.range n).find? p = none := by
    rw [List.find?_eq_none]
    intro x hx
    rw [h x (List.mem_range.1 hx)]
    simp
  simp [findI, this]
theorem findI_cases (p : Nat → Bool) (n : Nat) : (findI p n = -1 ∧ ∀ j, j < n → p j = false) ∨ ∃ k : Nat, findI p n = k ∧ k < n ∧ p k = true ∧ ∀ j, j < k → p j = false := by
  rcases h : (List.range n).find? p with _ | k
  · refine .inl ⟨by simp [findI, h], fun j hj => ?_⟩
    have := List.find?_eq_none.1 h j (List.mem_range.2 hj)
    simpa using this
  · obtain ⟨h1, h2, h3⟩ := List.find?_range_eq_some.1 h
    exact .inr ⟨k, by simp [findI, h], List.mem_range.1 h2, h1, fun j hj => by simpa using h3 j hj⟩
/-- The sum of f 0, .., f (n-1). -/
def sumI (f : Nat → Int) : Nat → Int
  | 0 => 0
  | n + 1 => sumI f n + f n
theorem sumI_bd {f : Nat → Int} {lo hi : Int} : ∀ {n : Nat}, (∀ i, i < n → lo ≤ f i ∧ f i ≤ hi) → lo * n ≤ sumI f n ∧ sumI f n ≤ hi * n
  | 0, _ => by simp [sumI]
  | n + 1, h => by
    obtain ⟨a, b⟩ := sumI_bd (n := n) (fun i hi => h i (by omega))
    obtain ⟨c, d⟩ := h n (by omega)
    simp only [sumI, Int.natCast_add, Int.mul_add]
    constructor <;> simp <;> omega
end Go.Proofs.Ytgfcmeiffhffaaa
