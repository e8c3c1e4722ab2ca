/- Plain words on sorting by insertion from the right, behind equal ones. -/
import Derived.Test.YtgfcmeiffhffaaaJFind
namespace Go.Proofs.Ytgfcmeiffhffaaa

/-- Where x comes to stand among P 0, .., P (k-1): behind the last that is not greater. -/
def posF (K : Int → Int) (P : Nat → Int) (x : Int) : Nat → Nat
  | 0 => 0
  | k + 1 => if K x < K (P k) then posF K P x k else k + 1
theorem posF_le (K : Int → Int) (P : Nat → Int) (x : Int) : ∀ k, posF K P x k ≤ k
  | 0 => Nat.le_refl _
  | k + 1 => by
    have := posF_le K P x k
    simp only [posF]
    split <;> omega
/-- x put at place j, those from j up to i - 1 moved up by one. -/
def putF (P : Nat → Int) (x : Int) (i j t : Nat) : Int := if t < j then P t else if t = j then x else if t ≤ i then P (t - 1) else P t
/-- The first k numbers of D sorted by insertion. -/
def sortF (K : Int → Int) (D : Nat → Int) : Nat → Nat → Int
  | 0 => D
  | k + 1 => putF (sortF K D k) (sortF K D k k) k (posF K (sortF K D k) (sortF K D k k) k)
theorem sortF_far (K : Int → Int) (D : Nat → Int) : ∀ k t, k ≤ t → sortF K D k t = D t
  | 0, _, _ => rfl
  | k + 1, t, h => by
    have := posF_le K (sortF K D k) (sortF K D k k) k
    show putF _ _ k _ t = D t
    unfold putF
    rw [if_neg (by omega), if_neg (by omega), if_neg (by omega)]
    exact sortF_far K D k t (by omega)
theorem putF_self (P : Nat → Int) (i t : Nat) : putF P (P i) i i t = P t := by
  unfold putF
  split
  · rfl
  · split
    · subst_vars; rfl
    · rw [if_neg (by omega)]
theorem sortF_one (K : Int → Int) (D : Nat → Int) (t : Nat) : sortF K D 1 t = D t := putF_self D 0 t
/-- One exchange: x goes from place j + 1 to place j. -/
theorem putF_swap (P : Nat → Int) (x : Int) {i j : Nat} (hj : j + 1 ≤ i) (t : Nat) : (if t = j then x else if t = j + 1 then P j else putF P x i (j + 1) t) = putF P x i j t := by
  unfold putF
  by_cases h1 : t < j
  · rw [if_neg (by omega), if_neg (by omega), if_pos (by omega), if_pos h1]
  · by_cases h2 : t = j
    · rw [if_pos h2, if_neg h1, if_pos h2]
    · by_cases h3 : t = j + 1
      · subst h3
        rw [if_neg (by omega), if_pos rfl, if_neg (by omega), if_neg (by omega), if_pos hj]
        rfl
      · rw [if_neg h2, if_neg h3, if_neg (by omega), if_neg h3, if_neg h1, if_neg h2]
theorem posF_congr {K : Int → Int} {P Q : Nat → Int} {x : Int} : ∀ {k : Nat}, (∀ t, t < k → P t = Q t) → posF K P x k = posF K Q x k
  | 0, _ => rfl
  | k + 1, h => by
    simp only [posF]
    rw [h k (by omega), posF_congr (fun t ht => h t (by omega))]
theorem sortF_congr {K : Int → Int} {D E : Nat → Int} : ∀ {k : Nat}, (∀ t, t < k → D t = E t) → ∀ t, t < k → sortF K D k t = sortF K E k t
  | 0, _, t, ht => by omega
  | k + 1, h, t, ht => by
    have ih := sortF_congr (K := K) (k := k) (fun t ht => h t (by omega))
    have e : sortF K D k k = sortF K E k k := by rw [sortF_far K D k k (Nat.le_refl _), sortF_far K E k k (Nat.le_refl _), h k (by omega)]
    have ep : posF K (sortF K D k) (sortF K D k k) k = posF K (sortF K E k) (sortF K E k k) k := by rw [e]; exact posF_congr ih
    show putF _ _ k _ t = putF _ _ k _ t
    rw [ep, e]
    unfold putF
    split
    · exact ih t (by have := posF_le K (sortF K E k) (sortF K E k k) k; omega)
    · split
      · rfl
      · rw [if_pos (by omega), if_pos (by omega)]
        exact ih (t - 1) (by omega)
theorem sortF_mem {K : Int → Int} {D : Nat → Int} {p : Int → Prop} {m : Nat} (h : ∀ t, t < m → p (D t)) : ∀ k, k ≤ m → ∀ t, t < m → p (sortF K D k t)
  | 0, _, t, ht => h t ht
  | k + 1, hk, t, ht => by
    have ih := sortF_mem (K := K) h k (by omega)
    show p (putF _ _ k _ t)
    unfold putF
    split
    · exact ih t ht
    · split
      · exact ih k (by omega)
      · split
        · exact ih (t - 1) (by omega)
        · exact ih t ht
def cmpI (a b : Int) : Int := if a < b then -1 else if b < a then 1 else 0
theorem cmpI_lt (a b : Int) : decide (cmpI a b < 0) = decide (a < b) := by
  unfold cmpI
  split
  · rename_i h; simp [h]
  · rename_i h; split <;> simp [h]
end Go.Proofs.Ytgfcmeiffhffaaa
