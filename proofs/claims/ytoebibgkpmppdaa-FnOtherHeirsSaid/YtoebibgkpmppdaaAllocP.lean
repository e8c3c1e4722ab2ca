/- Plain words on dividing an amount by weights: whole parts, rests, and who gets one more. -/
import Derived.Test.YtoebibgkpmppdaaSortP
namespace Go.Proofs.Ytoebibgkpmppdaa

theorem sumI_congr {f g : Nat → Int} : ∀ {n : Nat}, (∀ i, i < n → f i = g i) → sumI f n = sumI g n
  | 0, _ => rfl
  | n + 1, h => by
    simp only [sumI]
    rw [sumI_congr (fun i hi => h i (by omega)), h n (by omega)]
theorem sumI_upd (f : Nat → Int) (g : Nat) (x : Int) : ∀ n, sumI (fun i => if i = g then x else f i) n = if g < n then sumI f n - f g + x else sumI f n
  | 0 => by simp [sumI]
  | n + 1 => by
    have ih := sumI_upd f g x n
    simp only [sumI]
    rw [ih]
    by_cases h1 : g < n
    · rw [if_pos h1, if_pos (show g < n + 1 by omega), if_neg (show ¬ n = g by omega)]
      omega
    · by_cases h2 : n = g
      · subst h2
        rw [if_neg (show ¬ n < n by omega), if_pos (show n < n + 1 by omega), if_pos rfl]
        omega
      · rw [if_neg h1, if_neg (show ¬ g < n + 1 by omega), if_neg h2]
theorem sumI_nonneg {f : Nat → Int} : ∀ {n : Nat}, (∀ i, i < n → 0 ≤ f i) → 0 ≤ sumI f n
  | 0, _ => Int.le_refl _
  | n + 1, h => by
    have := sumI_nonneg (n := n) (fun i hi => h i (by omega))
    have := h n (by omega)
    simp only [sumI]
    omega
theorem sumI_nonpos {f : Nat → Int} : ∀ {n : Nat}, (∀ i, i < n → f i ≤ 0) → sumI f n ≤ 0
  | 0, _ => Int.le_refl _
  | n + 1, h => by
    have := sumI_nonpos (n := n) (fun i hi => h i (by omega))
    have := h n (by omega)
    simp only [sumI]
    omega
theorem sumI_one {f : Nat → Int} : ∀ {n i : Nat}, (∀ i, i < n → 0 ≤ f i) → i < n → f i ≤ sumI f n
  | 0, i, _, h => by omega
  | n + 1, i, h, hi => by
    have h1 := sumI_nonneg (n := n) (fun i hi => h i (by omega))
    have h2 := h n (by omega)
    simp only [sumI]
    rcases Nat.lt_or_ge i n with h3 | h3
    · have := sumI_one (n := n) (fun i hi => h i (by omega)) h3
      omega
    · obtain rfl : i = n := by omega
      omega
theorem sumI_parts (T S : Int) (W : Nat → Int) : ∀ n, S * sumI (fun i => T * W i / S) n + sumI (fun i => T * W i % S) n = T * sumI W n
  | 0 => by simp [sumI]
  | n + 1 => by
    have ih := sumI_parts T S W n
    have e := Int.mul_ediv_add_emod (T * W n) S
    simp only [sumI, Int.mul_add]
    omega
theorem sumI_le {f : Nat → Int} {b : Int} : ∀ {n : Nat}, (∀ i, i < n → f i ≤ b) → sumI f n ≤ b * n
  | 0, _ => by simp [sumI]
  | n + 1, h => by
    have := sumI_le (n := n) (fun i hi => h i (by omega))
    have := h n (by omega)
    have e : b * ((n + 1 : Nat) : Int) = b * n + b := by rw [Int.natCast_succ, Int.mul_add]; omega
    simp only [sumI]
    omega
/-- The whole parts. -/
def alF (T : Int) (W : Nat → Int) (n : Nat) (i : Nat) : Int := T * W i / sumI W n
/-- The rests. -/
def alR (T : Int) (W : Nat → Int) (n : Nat) (i : Nat) : Int := T * W i % sumI W n
def alK (T : Int) (W : Nat → Int) (n : Nat) (x : Int) : Int := - alR T W n x.toNat
/-- The places by falling rests. -/
def alG (T : Int) (W : Nat → Int) (n : Nat) : Nat → Int := sortF (alK T W n) (fun i => (i : Int)) n
/-- What is left behind the whole parts. -/
def alL (T : Int) (W : Nat → Int) (n : Nat) : Int := T - sumI (alF T W n) n
/-- One more for G 0, .., G (j-1). -/
def upJ (G f : Nat → Int) : Nat → Nat → Int
  | 0, i => f i
  | j + 1, i => if i = (G j).toNat then upJ G f j i + 1 else upJ G f j i
/-- The rests behind j rounds. -/
def downJ (x : Int) (G f : Nat → Int) : Nat → Nat → Int
  | 0, i => f i
  | j + 1, i => if i = (G j).toNat then x else downJ x G f j i
def alcG (T : Int) (W : Nat → Int) (n : Nat) : Nat → Int := upJ (alG T W n) (alF T W n) (alL T W n).toNat
/-- Weights of one to ten, of a hundred at most each, of more than a hundred together; an amount. -/
structure Parts (T : Int) (W : Nat → Int) (n : Nat) : Prop where
  n1 : 1 ≤ n
  n2 : n ≤ 10
  w : ∀ i, i < n → 0 ≤ W i ∧ W i ≤ 100
  s : 100 < sumI W n
  t0 : 0 ≤ T
  t1 : T ≤ 1000000000
section
variable {T : Int} {W : Nat → Int} {n : Nat}
theorem Parts.s1 (h : Parts T W n) : sumI W n ≤ 1000 := by
  have := (sumI_bd h.w).2
  have := h.n2
  omega
theorem Parts.r (h : Parts T W n) (i : Nat) : 0 ≤ alR T W n i ∧ alR T W n i < sumI W n := by
  have := h.s
  exact ⟨Int.emod_nonneg _ (by omega), Int.emod_lt_of_pos _ (by omega)⟩
theorem Parts.p (h : Parts T W n) {i : Nat} (hi : i < n) : 0 ≤ T * W i ∧ T * W i ≤ 100000000000 := by
  obtain ⟨a, b⟩ := h.w i hi
  exact ⟨Int.mul_nonneg h.t0 a, Int.le_trans (Int.mul_le_mul h.t1 b a (by decide)) (by decide)⟩
theorem Parts.f (h : Parts T W n) {i : Nat} (hi : i < n) : 0 ≤ alF T W n i ∧ alF T W n i ≤ T := by
  have hs := h.s
  have hw := sumI_one (fun i hi => (h.w i hi).1) hi
  refine ⟨Int.ediv_nonneg (h.p hi).1 (by omega), ?_⟩
  have e : T * W i ≤ T * sumI W n := Int.mul_le_mul_of_nonneg_left hw h.t0
  have := Int.ediv_le_ediv (by omega : 0 < sumI W n) e
  rwa [Int.mul_ediv_cancel _ (by omega : sumI W n ≠ 0)] at this
theorem alL_eq : sumI W n * alL T W n = sumI (alR T W n) n := by
  have := sumI_parts T (sumI W n) W n
  have e : sumI W n * alL T W n = sumI W n * T - sumI W n * sumI (alF T W n) n := by unfold alL; rw [Int.mul_sub]
  rw [e, Int.mul_comm (sumI W n) T]
  show _ = sumI (fun i => T * W i % sumI W n) n
  have : sumI (alF T W n) n = sumI (fun i => T * W i / sumI W n) n := rfl
  rw [this]
  omega
theorem Parts.left (h : Parts T W n) : 0 ≤ alL T W n ∧ alL T W n < n := by
  have e := alL_eq (T := T) (W := W) (n := n)
  have hs := h.s
  have h0 := sumI_nonneg (f := alR T W n) (n := n) (fun i _ => (h.r i).1)
  have h1 := sumI_le (f := alR T W n) (n := n) (b := sumI W n - 1) (fun i _ => by have := (h.r i).2; omega)
  have hn : (1 : Int) ≤ n := by have := h.n1; omega
  have e2 : (sumI W n - 1) * (n : Int) = sumI W n * n - n := by rw [Int.sub_mul]; omega
  constructor
  · refine Int.not_lt.1 fun hc => ?_
    have := Int.mul_lt_mul_of_pos_left hc (by omega : 0 < sumI W n)
    omega
  · refine Int.not_le.1 fun hc => ?_
    have := Int.mul_le_mul_of_nonneg_left hc (by omega : 0 ≤ sumI W n)
    omega
theorem alG_in {j : Nat} (hj : j < n) : 0 ≤ alG T W n j ∧ alG T W n j < n :=
  sortF_mem (K := alK T W n) (p := fun x => 0 ≤ x ∧ x < n) (fun t ht => ⟨by omega, by omega⟩) n (Nat.le_refl _) j hj
theorem alG_lex {i j : Nat} (hij : i < j) (hj : j < n) : Lex (alK T W n) (alG T W n i) (alG T W n j) :=
  (sortF_lex (m := n) (fun a b hab hb => by omega) n (Nat.le_refl _)).1 i j hij hj
theorem alG_onto {i : Nat} (hi : i < n) : ∃ t, t < n ∧ alG T W n t = i := sortF_onto n i hi
theorem alG_ne {i j : Nat} (hij : i < j) (hj : j < n) : (alG T W n i).toNat ≠ (alG T W n j).toNat := fun e => by
  have a := alG_in (T := T) (W := W) (show i < n by omega)
  have b := alG_in (T := T) (W := W) hj
  have h := alG_lex (T := T) (W := W) hij hj
  have : alG T W n i = alG T W n j := by omega
  rw [this] at h
  rcases h with h | h <;> omega
theorem downJ_far {x : Int} {G f : Nat → Int} {i : Nat} : ∀ {j : Nat}, (∀ t, t < j → i ≠ (G t).toNat) → downJ x G f j i = f i
  | 0, _ => rfl
  | j + 1, h => by
    simp only [downJ]
    rw [if_neg (h j (by omega))]
    exact downJ_far (fun t ht => h t (by omega))
theorem downJ_hit {x : Int} {G f : Nat → Int} {i : Nat} : ∀ {j t : Nat}, t < j → i = (G t).toNat → downJ x G f j i = x
  | 0, t, h, _ => by omega
  | j + 1, t, h, e => by
    simp only [downJ]
    by_cases h1 : i = (G j).toNat
    · rw [if_pos h1]
    · rw [if_neg h1]
      rcases Nat.lt_or_ge t j with h2 | h2
      · exact downJ_hit h2 e
      · obtain rfl : t = j := by omega
        exact absurd e h1
/-- Number c is the first of the greatest among the first m. -/
def Top (r : Nat → Int) (m c : Nat) : Prop := (∀ t, t < m → r t ≤ r c) ∧ ∀ t, t < c → r t < r c
theorem Top.uniq {r : Nat → Int} {m c d : Nat} (hc : c < m) (hd : d < m) (h : Top r m c) (k : Top r m d) : c = d := by
  rcases Nat.lt_trichotomy c d with h1 | h1 | h1
  · have := k.2 c h1
    have := h.1 d hd
    omega
  · exact h1
  · have := h.2 d h1
    have := k.1 c hc
    omega
theorem Top.next {r : Nat → Int} {m c : Nat} (hc : c < m) (h : Top r m c) : Top r (m + 1) (if r c < r m then m else c) := by
  by_cases h1 : r c < r m
  · rw [if_pos h1]
    refine ⟨fun t ht => ?_, fun t ht => ?_⟩
    · rcases Nat.lt_or_ge t m with h2 | h2
      · have := h.1 t h2; omega
      · obtain rfl : t = m := by omega
        omega
    · have := h.1 t ht; omega
  · rw [if_neg h1]
    refine ⟨fun t ht => ?_, h.2⟩
    rcases Nat.lt_or_ge t m with h2 | h2
    · exact h.1 t h2
    · obtain rfl : t = m := by omega
      omega
theorem Parts.top (h : Parts T W n) {j : Nat} (hj : j < n) : Top (downJ (-1) (alG T W n) (alR T W n) j) n (alG T W n j).toNat := by
  obtain ⟨g0, g1⟩ := alG_in (T := T) (W := W) hj
  have hc : downJ (-1) (alG T W n) (alR T W n) j (alG T W n j).toNat = alR T W n (alG T W n j).toNat := downJ_far (fun t ht => fun e => alG_ne ht hj e.symm)
  have hr := (h.r (alG T W n j).toNat).1
  have key : ∀ t, t < n → downJ (-1) (alG T W n) (alR T W n) j t < downJ (-1) (alG T W n) (alR T W n) j (alG T W n j).toNat ∨ (downJ (-1) (alG T W n) (alR T W n) j t = downJ (-1) (alG T W n) (alR T W n) j (alG T W n j).toNat ∧ (alG T W n j).toNat ≤ t) := by
    intro t ht
    rw [hc]
    obtain ⟨s, hs, e⟩ := alG_onto (T := T) (W := W) ht
    rcases Nat.lt_trichotomy s j with h1 | h1 | h1
    · rw [downJ_hit h1 (by rw [e]; simp)]
      exact .inl (by omega)
    · subst h1
      rw [e, Int.toNat_natCast] at hc hr ⊢
      exact .inr ⟨hc, Nat.le_refl _⟩
    · have e2 : downJ (-1) (alG T W n) (alR T W n) j t = alR T W n t := downJ_far (fun u hu => fun e3 => by
        refine alG_ne (T := T) (W := W) (show u < s by omega) hs ?_
        rw [← e3, e]; simp)
      rw [e2]
      have hl := alG_lex (T := T) (W := W) h1 hs
      unfold Lex alK at hl
      rw [e, Int.toNat_natCast] at hl
      rcases hl with hl | ⟨hl, hl2⟩
      · exact .inl (by omega)
      · exact .inr ⟨by omega, by omega⟩
  refine ⟨fun t ht => ?_, fun t ht => ?_⟩
  · rcases key t ht with k | ⟨k, _⟩ <;> omega
  · rcases key t (by omega) with k | ⟨_, k⟩ <;> omega
theorem upJ_bd {G f : Nat → Int} {m : Nat} (hne : ∀ i j, i < j → j < m → (G i).toNat ≠ (G j).toNat) (i : Nat) : ∀ j, j ≤ m → (upJ G f j i = f i ∧ ∀ t, t < j → i ≠ (G t).toNat) ∨ (upJ G f j i = f i + 1 ∧ ∃ t, t < j ∧ i = (G t).toNat)
  | 0, _ => .inl ⟨rfl, fun t h => by omega⟩
  | j + 1, hj => by
    simp only [upJ]
    by_cases h1 : i = (G j).toNat
    · rw [if_pos h1]
      rcases upJ_bd (f := f) hne i j (by omega) with ⟨h2, _⟩ | ⟨_, t, h2, h3⟩
      · exact .inr ⟨by omega, j, by omega, h1⟩
      · exact absurd (h3.symm.trans h1) (hne t j h2 (by omega))
    · rw [if_neg h1]
      rcases upJ_bd (f := f) hne i j (by omega) with ⟨h2, h3⟩ | ⟨h2, t, h3, h4⟩
      · refine .inl ⟨h2, fun t ht => ?_⟩
        rcases Nat.lt_or_ge t j with h5 | h5
        · exact h3 t h5
        · obtain rfl : t = j := by omega
          exact h1
      · exact .inr ⟨h2, t, by omega, h4⟩
theorem upJ_sum {G f : Nat → Int} {m : Nat} : ∀ j, (∀ t, t < j → 0 ≤ G t ∧ G t < m) → sumI (upJ G f j) m = sumI f m + j
  | 0, _ => by show sumI f m = _; simp
  | j + 1, h => by
    have ih := upJ_sum (G := G) (f := f) (m := m) j (fun t ht => h t (by omega))
    obtain ⟨g0, g1⟩ := h j (by omega)
    have e : upJ G f (j + 1) = fun i => if i = (G j).toNat then upJ G f j (G j).toNat + 1 else upJ G f j i := by
      funext i
      simp only [upJ]
      split
      · rename_i h1; rw [h1]
      · rfl
    rw [e, sumI_upd, if_pos (by omega), ih]
    omega
theorem Parts.sum (h : Parts T W n) : sumI (alcG T W n) n = T := by
  have hl := h.left
  unfold alcG
  rw [upJ_sum (m := n) (alL T W n).toNat (fun t ht => alG_in (by omega))]
  have : ((alL T W n).toNat : Int) = alL T W n := Int.toNat_of_nonneg hl.1
  rw [this]
  unfold alL
  omega
theorem Parts.val (h : Parts T W n) (i : Nat) : alcG T W n i = alF T W n i ∨ (alcG T W n i = alF T W n i + 1 ∧ ∃ t, t < (alL T W n).toNat ∧ i = (alG T W n t).toNat) := by
  have hl := h.left
  rcases upJ_bd (G := alG T W n) (f := alF T W n) (m := n) (fun i j hij hj => alG_ne hij hj) i (alL T W n).toNat (by omega) with ⟨h1, _⟩ | h1
  · exact .inl h1
  · exact .inr h1
theorem Parts.nonneg (h : Parts T W n) {i : Nat} (hi : i < n) : 0 ≤ alcG T W n i := by
  have := (h.f hi).1
  rcases h.val i with h1 | ⟨h1, _⟩ <;> omega
theorem Parts.most (h : Parts T W n) {i : Nat} (hi : i < n) : alcG T W n i ≤ T := by
  have := sumI_one (f := alcG T W n) (fun i hi => h.nonneg hi) hi
  rw [h.sum] at this
  exact this
/-- What is left of the rests behind j rounds is enough for the rounds to come. -/
theorem Parts.rest (h : Parts T W n) : ∀ j, j ≤ n → sumI W n * alL T W n - j * (sumI W n - 1) ≤ sumI (downJ 0 (alG T W n) (alR T W n) j) n
  | 0, _ => by
    have := alL_eq (T := T) (W := W) (n := n)
    show _ ≤ sumI (alR T W n) n
    simp only [Int.natCast_zero, Int.zero_mul]
    omega
  | j + 1, hj => by
    have ih := h.rest j (by omega)
    obtain ⟨g0, g1⟩ := alG_in (T := T) (W := W) (show j < n by omega)
    have e : downJ 0 (alG T W n) (alR T W n) (j + 1) = fun i => if i = (alG T W n j).toNat then 0 else downJ 0 (alG T W n) (alR T W n) j i := by
      funext i
      simp only [downJ]
    have e2 : downJ 0 (alG T W n) (alR T W n) j (alG T W n j).toNat = alR T W n (alG T W n j).toNat := downJ_far (fun t ht => fun e => alG_ne ht (by omega) e.symm)
    have hr := h.r (alG T W n j).toNat
    rw [e, sumI_upd, if_pos (by omega), e2]
    have e3 : ((j + 1 : Nat) : Int) * (sumI W n - 1) = j * (sumI W n - 1) + (sumI W n - 1) := by rw [Int.natCast_succ, Int.add_mul]; omega
    rw [e3]
    omega
theorem Parts.pos (h : Parts T W n) {i : Nat} (hw : W i = 0) : alcG T W n i = 0 := by
  have hs := h.s
  have hf : alF T W n i = 0 := by unfold alF; rw [hw]; simp
  have hr0 : alR T W n i = 0 := by unfold alR; rw [hw]; simp
  rcases h.val i with h1 | ⟨_, j, hj, e⟩
  · omega
  · exfalso
    have hl := h.left
    have hjn : j < n := by omega
    have hz := h.rest j (by omega)
    have hnp : sumI (downJ 0 (alG T W n) (alR T W n) j) n ≤ 0 := by
      refine sumI_nonpos fun t ht => ?_
      obtain ⟨s, hs', es⟩ := alG_onto (T := T) (W := W) ht
      rcases Nat.lt_or_ge s j with h1 | h1
      · rw [downJ_hit h1 (by rw [es]; simp)]
        exact Int.le_refl _
      · have e2 : downJ 0 (alG T W n) (alR T W n) j t = alR T W n t := downJ_far (fun u hu => fun e3 => by
          refine alG_ne (T := T) (W := W) (show u < s by omega) hs' ?_
          rw [← e3, es]; simp)
        rw [e2]
        rcases Nat.lt_or_ge j s with h2 | h2
        · have hx := alG_lex (T := T) (W := W) h2 hs'
          unfold Lex alK at hx
          rw [es, Int.toNat_natCast, ← e, hr0] at hx
          rcases hx with hx | hx <;> omega
        · obtain rfl : s = j := by omega
          rw [es, Int.toNat_natCast] at e
          rw [← e, hr0]
          exact Int.le_refl _
    have h3 : sumI W n * alL T W n ≥ sumI W n * (j + 1) := Int.mul_le_mul_of_nonneg_left (by omega) (by omega)
    have h4 : sumI W n * ((j : Int) + 1) = sumI W n * j + sumI W n := by rw [Int.mul_add]; omega
    have h5 : (j : Int) * (sumI W n - 1) = sumI W n * j - j := by rw [Int.mul_sub, Int.mul_comm]; omega
    omega
end
end Go.Proofs.Ytoebibgkpmppdaa
