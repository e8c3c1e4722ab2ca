/- Plain words on sorted orders: strictly sorted by effect and number; what is split off. -/
import Derived.Test.YtebgkmmmjmipnaaSplit
namespace Go.Proofs.Ytebgkmmmjmipnaa

theorem posF_right {K : Int → Int} {P : Nat → Int} {x : Int} : ∀ {k t : Nat}, posF K P x k ≤ t → t < k → K x < K (P t)
  | 0, t, _, h => by omega
  | k + 1, t, h, hk => by
    simp only [posF] at h
    split at h
    · rename_i hx
      rcases Nat.lt_or_ge t k with h1 | h1
      · exact posF_right h h1
      · obtain rfl : t = k := by omega
        exact hx
    · omega
theorem posF_left {K : Int → Int} {P : Nat → Int} {x : Int} : ∀ {k : Nat}, 0 < posF K P x k → K (P (posF K P x k - 1)) ≤ K x
  | 0, h => by simp [posF] at h
  | k + 1, h => by
    simp only [posF] at h ⊢
    split at h
    · rename_i hx
      rw [if_pos hx]
      exact posF_left h
    · rename_i hx
      rw [if_neg hx]
      simp only [Nat.add_sub_cancel]
      omega
/-- Strictly sorted by the key, then by the number itself. -/
def Lex (K : Int → Int) (x y : Int) : Prop := K x < K y ∨ K x = K y ∧ x < y
theorem sortF_lex {K : Int → Int} {D : Nat → Int} {m : Nat} (hD : ∀ i j, i < j → j < m → D i < D j) : ∀ k, k ≤ m → (∀ i j, i < j → j < k → Lex K (sortF K D k i) (sortF K D k j)) ∧ ∀ i, i < k → ∃ i', i' < k ∧ sortF K D k i = D i'
  | 0, _ => ⟨fun i j _ h => by omega, fun i h => by omega⟩
  | k + 1, hk => by
    obtain ⟨h1, h2⟩ := sortF_lex hD k (by omega)
    have hx : sortF K D k k = D k := sortF_far K D k k (Nat.le_refl _)
    have hlt : ∀ t, t < k → sortF K D k t < D k := fun t ht => by
      obtain ⟨i', hi', e⟩ := h2 t ht
      rw [e]
      exact hD i' k hi' (by omega)
    have hp := posF_le K (sortF K D k) (D k) k
    have hr : ∀ t, posF K (sortF K D k) (D k) k ≤ t → t < k → K (D k) < K (sortF K D k t) := fun t => posF_right
    have hl : 0 < posF K (sortF K D k) (D k) k → K (sortF K D k (posF K (sortF K D k) (D k) k - 1)) ≤ K (D k) := posF_left
    have hS : ∀ t, sortF K D (k + 1) t = putF (sortF K D k) (D k) k (posF K (sortF K D k) (D k) k) t := fun t => by
      show putF _ (sortF K D k k) k (posF K _ (sortF K D k k) k) t = _
      rw [hx]
    generalize posF K (sortF K D k) (D k) k = p at *
    have hll : ∀ t, t < p → Lex K (sortF K D k t) (D k) := fun t ht => by
      have a := hlt t (by omega)
      have b := hl (by omega)
      rcases Nat.lt_or_ge t (p - 1) with h | h
      · rcases h1 t (p - 1) h (by omega) with c | c
        · exact .inl (by omega)
        · rcases Int.lt_or_eq_of_le b with d | d
          · exact .inl (by omega)
          · exact .inr ⟨by omega, a⟩
      · obtain rfl : t = p - 1 := by omega
        rcases Int.lt_or_eq_of_le b with d | d
        · exact .inl d
        · exact .inr ⟨d, a⟩
    refine ⟨fun i j hij hj => ?_, fun i hi => ?_⟩
    · rw [hS, hS]
      unfold putF
      by_cases i1 : i < p
      · rw [if_pos i1]
        by_cases j1 : j < p
        · rw [if_pos j1]; exact h1 i j hij (by omega)
        · rw [if_neg j1]
          by_cases j2 : j = p
          · rw [if_pos j2]; exact hll i i1
          · rw [if_neg j2, if_pos (by omega)]; exact h1 i (j - 1) (by omega) (by omega)
      · rw [if_neg i1, if_neg (show ¬ j < p by omega), if_neg (show ¬ j = p by omega), if_pos (show j ≤ k by omega)]
        by_cases i2 : i = p
        · rw [if_pos i2]; exact .inl (hr _ (by omega) (by omega))
        · rw [if_neg i2, if_pos (by omega)]; exact h1 (i - 1) (j - 1) (by omega) (by omega)
    · rw [hS]
      unfold putF
      split
      · obtain ⟨i', a, b⟩ := h2 i (by omega)
        exact ⟨i', by omega, b⟩
      · split
        · exact ⟨k, by omega, rfl⟩
        · split
          · obtain ⟨i', a, b⟩ := h2 (i - 1) (by omega)
            exact ⟨i', by omega, b⟩
          · omega
theorem seqL_up (F : Nat → Nat → Int) (t k : Int) : ∀ n, (seqL F t k n).Pairwise (· < ·)
  | 0 => .nil
  | n + 1 => by
    have := seqL_up F t k n
    simp only [seqL]
    split
    · rw [List.pairwise_append]
      refine ⟨this, List.pairwise_singleton _ _, fun a ha b hb => ?_⟩
      simp only [List.mem_singleton] at hb
      subst hb
      have := seqL_mem F t k n a ha
      omega
    · exact this
theorem seqL_known (F : Nat → Nat → Int) (t k : Int) : ∀ n, ∀ x ∈ seqL F t k n, F x.toNat 0 ≤ t ∧ F x.toNat 1 ≤ k
  | 0, x, h => by simp [seqL] at h
  | n + 1, x, h => by
    simp only [seqL] at h
    split at h
    · rename_i hc
      rcases List.mem_append.1 h with h1 | h1
      · exact seqL_known F t k n x h1
      · simp only [List.mem_singleton] at h1; subst h1; exact hc
    · exact seqL_known F t k n x h
theorem seqG_lex {F : Nat → Nat → Int} {n : Nat} {t k : Int} {i j : Nat} (hij : i < j) (hj : j < (seqL F t k n).length) : Lex (effK F) (seqG F n t k i) (seqG F n t k j) := by
  refine (sortF_lex (m := (seqL F t k n).length) (fun a b hab hb => ?_) _ (Nat.le_refl _)).1 i j hij hj
  have := List.pairwise_iff_getElem.1 (seqL_up F t k n) a b (by omega) hb hab
  simpa [List.getD_eq_getElem?_getD, List.getElem?_eq_getElem hb, List.getElem?_eq_getElem (show a < (seqL F t k n).length by omega)] using this
theorem seqG_known {F : Nat → Nat → Int} {n : Nat} {t k : Int} {i : Nat} (hi : i < (seqL F t k n).length) : F (seqG F n t k i).toNat 0 ≤ t := by
  obtain ⟨i', h1, h2⟩ := (sortF_lex (K := effK F) (D := fun i => (seqL F t k n).getD i 0) (m := (seqL F t k n).length) (fun a b hab hb => by
    have := List.pairwise_iff_getElem.1 (seqL_up F t k n) a b (by omega) hb hab
    simpa [List.getD_eq_getElem?_getD, List.getElem?_eq_getElem hb, List.getElem?_eq_getElem (show a < (seqL F t k n).length by omega)] using this) _ (Nat.le_refl _)).2 i hi
  have e : seqG F n t k i = (seqL F t k n).getD i' 0 := h2
  rw [e]
  refine (seqL_known F t k n _ ?_).1
  rw [List.getD_eq_getElem?_getD, List.getElem?_eq_getElem h1]
  exact List.getElem_mem _
/-- The sum of f 0, .., f (n-1). -/
def sumO (f : Nat → Int) : Nat → Int
  | 0 => 0
  | n + 1 => sumO f n + f n
theorem sumO_upd (f : Nat → Int) (g : Nat) (x : Int) : ∀ n, sumO (fun i => if i = g then x else f i) n = if g < n then sumO f n - f g + x else sumO f n
  | 0 => by simp [sumO]
  | n + 1 => by
    have ih := sumO_upd f g x n
    simp only [sumO]
    rw [ih]
    by_cases h1 : g < n
    · rw [if_pos h1, if_pos (show g < n + 1 by omega), if_neg (show ¬ n = g by omega)]
      omega
    · by_cases h2 : n = g
      · subst h2
        rw [if_neg (show ¬ n < n by omega), if_pos (show n < n + 1 by omega), if_pos rfl]
        omega
      · rw [if_neg h1, if_neg (show ¬ g < n + 1 by omega), if_neg h2]
theorem sumO_zero : ∀ n, sumO (fun _ => 0) n = 0
  | 0 => rfl
  | n + 1 => by
    have := sumO_zero n
    simp only [sumO, this]
    rfl
theorem part_zero {F : Nat → Nat → Int} {G : Nat → Int} {a : Int} {x : Nat} : ∀ {j : Nat}, (∀ i, i < j → x ≠ (G i).toNat) → partS F G a j x = 0
  | 0, _ => rfl
  | j + 1, h => by
    simp only [partS]
    rw [if_neg (h j (by omega))]
    exact part_zero (fun i hi => h i (by omega))
theorem part_sum {F : Nat → Nat → Int} {G : Nat → Int} {a : Int} {n s : Nat} (hin : ∀ j, j < s → 0 ≤ G j ∧ G j < n) (hne : ∀ i j, i < j → j < s → G i ≠ G j) : ∀ j, j ≤ s → leftS F G a j + sumO (partS F G a j) n = a
  | 0, _ => by
    show a + sumO (fun _ => 0) n = a
    rw [sumO_zero]
    omega
  | j + 1, hj => by
    have ih := part_sum (F := F) (a := a) hin hne j (by omega)
    obtain ⟨g0, g1⟩ := hin j (by omega)
    have hz : partS F G a j (G j).toNat = 0 := part_zero (fun i hi => by
      have := hne i j hi (by omega)
      have := hin i (by omega)
      omega)
    have e : partS F G a (j + 1) = fun i => if i = (G j).toNat then leftS F G a j * F (G j).toNat 2 / 100 else partS F G a j i := by
      funext i
      simp only [partS]
      split <;> simp [*]
    rw [e, sumO_upd, if_pos (by omega), hz]
    simp only [leftS]
    omega
theorem sumO_bd {f : Nat → Int} {n : Nat} {b : Int} (h : ∀ i, i < n → 0 ≤ f i ∧ f i ≤ b) : ∀ k, k ≤ n → 0 ≤ sumO f k ∧ sumO f k ≤ k * b
  | 0, _ => by simp [sumO]
  | k + 1, hk => by
    have ih := sumO_bd h k (by omega)
    have := h k (by omega)
    have e : ((k + 1 : Nat) : Int) * b = k * b + b := by rw [Int.natCast_succ, Int.add_mul]; omega
    rw [e]
    simp only [sumO]
    omega
theorem split_sum {F : Nat → Nat → Int} {n : Nat} {a t k : Int} (h : splitB F n a = true) : splitR F n a t k + sumO (splitP F n a t k) n = a := by
  unfold splitR splitP
  rw [if_pos h]
  refine part_sum (s := (seqL F t k n).length) (fun j hj => seqG_in hj) (fun i j hij hj e => ?_) _ (Nat.le_refl _)
  rcases seqG_lex hij hj with h1 | h1
  · rw [e] at h1; omega
  · rw [e] at h1; omega
theorem split_rest {F : Nat → Nat → Int} {n : Nat} {a t k : Int} (h : splitB F n a = true) : 0 ≤ splitR F n a t k ∧ splitR F n a t k ≤ a := by
  unfold splitR
  rw [if_pos h]
  simp only [splitB, Bool.and_eq_true] at h
  exact leftS_bd h.1 (inB_true.1 h.2).1 _ (Nat.le_refl _)
theorem part_bd {F : Nat → Nat → Int} {n : Nat} {t k a : Int} (h : ordersB F n = true) (a0 : 0 ≤ a) (i : Nat) (hi : i < n) : ∀ j, j ≤ (seqL F t k n).length → 0 ≤ partS F (seqG F n t k) a j i ∧ partS F (seqG F n t k) a j i ≤ a
  | 0, _ => ⟨Int.le_refl _, a0⟩
  | j + 1, hj => by
    have ih := part_bd (t := t) (k := k) h a0 i hi j (by omega)
    obtain ⟨h0, h1⟩ := leftS_bd (t := t) (k := k) h a0 j (by omega)
    obtain ⟨p0, p1⟩ := order_pct h hi
    have b : 0 ≤ leftS F (seqG F n t k) a j * F i 2 := Int.mul_nonneg h0 p0
    have c := Int.mul_le_mul_of_nonneg_left p1 h0
    simp only [partS]
    split <;> omega
end Go.Proofs.Ytebgkmmmjmipnaa
