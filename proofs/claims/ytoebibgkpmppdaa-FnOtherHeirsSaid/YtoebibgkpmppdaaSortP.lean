/- Plain words: what is sorted by insertion is strictly sorted by the key and the number. -/
import Derived.Test.YtoebibgkpmppdaaInsP
namespace Go.Proofs.Ytoebibgkpmppdaa

theorem posF_right {K : Int → Int} {P : Nat → Int} {x : Int} : ∀ {k t : Nat}, posF K P x k ≤ t → t < k → K x < K (P t)
  | 0, t, _, h => by omega
  | k + 1, t, h, hk => by
    simp only [posF] at h
    split at h
    · rename_i hx
      rcases Nat.lt_or_ge t k with h1 | h1
      · exact posF_right h h1
      · obtain rfl : t = k := by omega
        exact hx
    · omega
theorem posF_left {K : Int → Int} {P : Nat → Int} {x : Int} : ∀ {k : Nat}, 0 < posF K P x k → K (P (posF K P x k - 1)) ≤ K x
  | 0, h => by simp [posF] at h
  | k + 1, h => by
    simp only [posF] at h ⊢
    split at h
    · rename_i hx
      rw [if_pos hx]
      exact posF_left h
    · rename_i hx
      rw [if_neg hx]
      simp only [Nat.add_sub_cancel]
      omega
/-- Strictly sorted by the key, then by the number itself. -/
def Lex (K : Int → Int) (x y : Int) : Prop := K x < K y ∨ K x = K y ∧ x < y
theorem sortF_lex {K : Int → Int} {D : Nat → Int} {m : Nat} (hD : ∀ i j, i < j → j < m → D i < D j) : ∀ k, k ≤ m → (∀ i j, i < j → j < k → Lex K (sortF K D k i) (sortF K D k j)) ∧ ∀ i, i < k → ∃ i', i' < k ∧ sortF K D k i = D i'
  | 0, _ => ⟨fun i j _ h => by omega, fun i h => by omega⟩
  | k + 1, hk => by
    obtain ⟨h1, h2⟩ := sortF_lex hD k (by omega)
    have hx : sortF K D k k = D k := sortF_far K D k k (Nat.le_refl _)
    have hlt : ∀ t, t < k → sortF K D k t < D k := fun t ht => by
      obtain ⟨i', hi', e⟩ := h2 t ht
      rw [e]
      exact hD i' k hi' (by omega)
    have hp := posF_le K (sortF K D k) (D k) k
    have hr : ∀ t, posF K (sortF K D k) (D k) k ≤ t → t < k → K (D k) < K (sortF K D k t) := fun t => posF_right
    have hl : 0 < posF K (sortF K D k) (D k) k → K (sortF K D k (posF K (sortF K D k) (D k) k - 1)) ≤ K (D k) := posF_left
    have hS : ∀ t, sortF K D (k + 1) t = putF (sortF K D k) (D k) k (posF K (sortF K D k) (D k) k) t := fun t => by
      show putF _ (sortF K D k k) k (posF K _ (sortF K D k k) k) t = _
      rw [hx]
    generalize posF K (sortF K D k) (D k) k = p at *
    have hll : ∀ t, t < p → Lex K (sortF K D k t) (D k) := fun t ht => by
      have a := hlt t (by omega)
      have b := hl (by omega)
      rcases Nat.lt_or_ge t (p - 1) with h | h
      · rcases h1 t (p - 1) h (by omega) with c | c
        · exact .inl (by omega)
        · rcases Int.lt_or_eq_of_le b with d | d
          · exact .inl (by omega)
          · exact .inr ⟨by omega, a⟩
      · obtain rfl : t = p - 1 := by omega
        rcases Int.lt_or_eq_of_le b with d | d
        · exact .inl d
        · exact .inr ⟨d, a⟩
    refine ⟨fun i j hij hj => ?_, fun i hi => ?_⟩
    · rw [hS, hS]
      unfold putF
      by_cases i1 : i < p
      · rw [if_pos i1]
        by_cases j1 : j < p
        · rw [if_pos j1]; exact h1 i j hij (by omega)
        · rw [if_neg j1]
          by_cases j2 : j = p
          · rw [if_pos j2]; exact hll i i1
          · rw [if_neg j2, if_pos (by omega)]; exact h1 i (j - 1) (by omega) (by omega)
      · rw [if_neg i1, if_neg (show ¬ j < p by omega), if_neg (show ¬ j = p by omega), if_pos (show j ≤ k by omega)]
        by_cases i2 : i = p
        · rw [if_pos i2]; exact .inl (hr _ (by omega) (by omega))
        · rw [if_neg i2, if_pos (by omega)]; exact h1 (i - 1) (j - 1) (by omega) (by omega)
    · rw [hS]
      unfold putF
      split
      · obtain ⟨i', a, b⟩ := h2 i (by omega)
        exact ⟨i', by omega, b⟩
      · split
        · exact ⟨k, by omega, rfl⟩
        · split
          · obtain ⟨i', a, b⟩ := h2 (i - 1) (by omega)
            exact ⟨i', by omega, b⟩
          · omega
theorem sortF_onto {K : Int → Int} {D : Nat → Int} : ∀ k i, i < k → ∃ t, t < k ∧ sortF K D k t = D i
  | 0, i, h => by omega
  | k + 1, i, h => by
    have hx : sortF K D k k = D k := sortF_far K D k k (Nat.le_refl _)
    have hp := posF_le K (sortF K D k) (D k) k
    have hS : ∀ t, sortF K D (k + 1) t = putF (sortF K D k) (D k) k (posF K (sortF K D k) (D k) k) t := fun t => by
      show putF _ (sortF K D k k) k (posF K _ (sortF K D k k) k) t = _
      rw [hx]
    generalize posF K (sortF K D k) (D k) k = p at *
    rcases Nat.lt_or_ge i k with h1 | h1
    · obtain ⟨t, ht, e⟩ := sortF_onto (K := K) (D := D) k i h1
      by_cases h2 : t < p
      · exact ⟨t, by omega, by rw [hS]; unfold putF; rw [if_pos h2]; exact e⟩
      · exact ⟨t + 1, by omega, by rw [hS]; unfold putF; rw [if_neg (by omega), if_neg (by omega), if_pos (by omega), Nat.add_sub_cancel]; exact e⟩
    · obtain rfl : i = k := by omega
      exact ⟨p, by omega, by rw [hS]; unfold putF; rw [if_neg (by omega), if_pos rfl]⟩
end Go.Proofs.Ytoebibgkpmppdaa
