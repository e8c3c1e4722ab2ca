/- Plain words on kept shares: what remains is the kept share, up to less than one for each order. -/
import Derived.Test.YtebgkmmmjmipnaaKept
import Derived.Test.YtebgkmmmjmipnaaPlainO
import Derived.Test.YtebgkmmmjmipnaaDrawO
import Derived.Test.YtebgkmmmjmipnaaLate
namespace Go.Proofs.Ytebgkmmmjmipnaa

theorem kept_step {L D a N p j K N' D' L' : Int} (hK : 0 < K) (hN : K * N' = N * p) (hD : K * D' = D * 100) (p0 : 0 ≤ p) (p1 : p ≤ 100) (D0 : 0 ≤ D) (h0 : 0 ≤ L * D - a * N) (h1 : L * D - a * N ≤ j * D) (j0 : 0 ≤ j)
    (hL : L * p ≤ 100 * L') (hL2 : 100 * L' ≤ L * p + 99) : 0 ≤ L' * D' - a * N' ∧ L' * D' - a * N' ≤ (j + 1) * D' := by
  have e1 : K * (L' * D' - a * N') = 100 * L' * D - a * N * p := by
    rw [Int.mul_sub, Int.mul_left_comm K L' D', hD, Int.mul_left_comm K a N', hN]
    simp only [Int.mul_comm, Int.mul_left_comm]
  have e2 : L * p * D ≤ 100 * L' * D := Int.mul_le_mul_of_nonneg_right hL D0
  have e3 : 100 * L' * D ≤ (L * p + 99) * D := Int.mul_le_mul_of_nonneg_right hL2 D0
  have e4 : 0 ≤ p * (L * D - a * N) := Int.mul_nonneg p0 h0
  have e5 : p * (L * D - a * N) ≤ p * (j * D) := Int.mul_le_mul_of_nonneg_left h1 p0
  have e6 : p * (j * D) ≤ 100 * (j * D) := Int.mul_le_mul_of_nonneg_right p1 (Int.mul_nonneg j0 D0)
  have e7 : p * (L * D - a * N) = L * p * D - a * N * p := by
    rw [Int.mul_sub]
    simp only [Int.mul_comm, Int.mul_left_comm]
  have e8 : (L * p + 99) * D = L * p * D + 99 * D := Int.add_mul _ _ _
  have e9 : K * ((j + 1) * D') = 100 * (j * D) + 100 * D := by
    rw [Int.mul_left_comm, hD, Int.add_mul]
    simp only [Int.mul_comm, Int.mul_left_comm, Int.mul_assoc, Int.one_mul]
  refine ⟨Int.le_of_mul_le_mul_left (a := K) ?_ hK, Int.le_of_mul_le_mul_left (a := K) ?_ hK⟩
  · rw [e1, Int.mul_zero]
    omega
  · rw [e1, e9]
    omega
theorem red_mul (a b : Nat) : Nat.gcd a b * redN a b = a ∧ Nat.gcd a b * redD a b = b :=
  ⟨Nat.mul_div_cancel' (Nat.gcd_dvd_left a b), Nat.mul_div_cancel' (Nat.gcd_dvd_right a b)⟩
theorem red_gcd {a b : Nat} (hb : 0 < b) : Nat.gcd (redN a b) (redD a b) = 1 := by
  have hg : 0 < Nat.gcd a b := Nat.gcd_pos_of_pos_right a hb
  obtain ⟨h1, h2⟩ := red_mul a b
  have h3 : Nat.gcd a b * Nat.gcd (redN a b) (redD a b) = Nat.gcd a b := by
    rw [← Nat.gcd_mul_left, h1, h2]
  exact Nat.eq_of_mul_eq_mul_left hg (by rw [h3, Nat.mul_one])
theorem kept_near {F : Nat → Nat → Int} {n : Nat} {t k a : Int} (h : ordersB F n = true) (a0 : 0 ≤ a) : ∀ j, j ≤ (seqL F t k n).length → keptK F (seqG F n t k) j = true →
    0 ≤ leftS F (seqG F n t k) a j * (keptP F (seqG F n t k) j).2 - a * (keptP F (seqG F n t k) j).1 ∧ leftS F (seqG F n t k) a j * (keptP F (seqG F n t k) j).2 - a * (keptP F (seqG F n t k) j).1 ≤ j * (keptP F (seqG F n t k) j).2
  | 0, _, _ => by simp [leftS, keptP]
  | j + 1, hj, hk => by
    have hk' : keptK F (seqG F n t k) j = true := by
      simp only [keptK, allB, Bool.and_eq_true] at hk ⊢
      exact hk.1
    obtain ⟨i0, i1⟩ := kept_near h a0 j (by omega) hk'
    obtain ⟨g0, g1⟩ := seqG_in (F := F) (t := t) (k := k) (n := n) (j := j) (by omega)
    obtain ⟨p0, p1⟩ := order_pct h (show (seqG F n t k j).toNat < n by omega)
    obtain ⟨l0, _⟩ := leftS_bd (t := t) (k := k) h a0 j (by omega)
    have hp : ((pctP F (seqG F n t k) j : Nat) : Int) = 100 - F (seqG F n t k j).toNat 2 := by simp only [pctP]; omega
    have hL : leftS F (seqG F n t k) a (j + 1) = leftS F (seqG F n t k) a j - leftS F (seqG F n t k) a j * F (seqG F n t k j).toNat 2 / 100 := rfl
    have hU : keptP F (seqG F n t k) (j + 1) = (redN ((keptP F (seqG F n t k) j).1 * redN (pctP F (seqG F n t k) j) 100) ((keptP F (seqG F n t k) j).2 * redD (pctP F (seqG F n t k) j) 100), redD ((keptP F (seqG F n t k) j).1 * redN (pctP F (seqG F n t k) j) 100) ((keptP F (seqG F n t k) j).2 * redD (pctP F (seqG F n t k) j) 100)) := rfl
    have hD1 : 1 ≤ (keptP F (seqG F n t k) j).2 := by
      have := (kept_ok hk' (fun x hx => by
        obtain ⟨g0, g1⟩ := seqG_in (F := F) (t := t) (k := k) (n := n) (j := x) (by omega)
        have := order_pct h (show (seqG F n t k x).toNat < n by omega)
        simp only [pctP]
        omega)).1
      exact (fracB_true this).1
    rw [hU, hL]
    generalize leftS F (seqG F n t k) a j = L at *
    generalize (keptP F (seqG F n t k) j).1 = N at *
    generalize (keptP F (seqG F n t k) j).2 = D at *
    generalize pctP F (seqG F n t k) j = p at *
    generalize F (seqG F n t k j).toNat 2 = y at *
    have hp' : p < 101 := by omega
    obtain ⟨q1, q2, q3⟩ := pct_red p hp'
    obtain ⟨m1, m2⟩ := red_mul p 100
    have hc1 : 1 ≤ redD p 100 := (fracB_true (show fracB (redN p 100) (redD p 100) = true from q1)).1
    obtain ⟨m3, m4⟩ := red_mul (N * redN p 100) (D * redD p 100)
    have hg1 : 0 < Nat.gcd p 100 := Nat.gcd_pos_of_pos_right p (by omega)
    have hg2 : 0 < Nat.gcd (N * redN p 100) (D * redD p 100) := Nat.gcd_pos_of_pos_right _ (Nat.mul_pos hD1 hc1)
    generalize redN p 100 = c at *
    generalize redD p 100 = d at *
    generalize Nat.gcd p 100 = g at *
    generalize Nat.gcd (N * c) (D * d) = e at *
    generalize redN (N * c) (D * d) = N' at *
    generalize redD (N * c) (D * d) = D' at *
    have k1 : g * e * N' = N * p := by rw [Nat.mul_assoc, m3, ← m1]; simp only [Nat.mul_comm, Nat.mul_left_comm]
    have k2 : g * e * D' = D * 100 := by rw [Nat.mul_assoc, m4, Nat.mul_left_comm, m2]
    have k1' : ((g * e : Nat) : Int) * (N' : Int) = (N : Int) * (p : Int) := by exact_mod_cast k1
    have k2' : ((g * e : Nat) : Int) * (D' : Int) = (D : Int) * 100 := by exact_mod_cast k2
    have ex : L * y = L * 100 - L * p := by rw [hp, Int.mul_sub]; omega
    have hge : (0 : Int) < ((g * e : Nat) : Int) := by have := Nat.mul_pos hg1 hg2; omega
    exact kept_step hge k1' k2' (by omega) (by omega) (by omega) i0 i1 (by omega) (by omega) (by omega)
theorem pct_small {x : Int} (h : pctOk x) : redD (100 - x).toNat 100 ≤ 10 := by
  obtain ⟨j, hj, rfl⟩ := h
  have : j = 0 ∨ j = 1 ∨ j = 2 ∨ j = 3 ∨ j = 4 ∨ j = 5 := by omega
  rcases this with rfl | rfl | rfl | rfl | rfl | rfl <;> decide +kernel
theorem kept_drawn {F : Nat → Nat → Int} {n : Nat} {t k : Int} (h : ordersB F n = true) (hn : n ≤ 4) (hp : ∀ i, i < n → pctOk (F i 2)) : ∀ j, j ≤ (seqL F t k n).length → keptK F (seqG F n t k) j = true ∧ (keptP F (seqG F n t k) j).2 ≤ 10 ^ j
  | 0, _ => ⟨rfl, by simp [keptP]⟩
  | j + 1, hj => by
    obtain ⟨h1, h2⟩ := kept_drawn (t := t) (k := k) h hn hp j (by omega)
    have hl := seqL_le F t k n
    have hP : ∀ x, x < j + 1 → pctP F (seqG F n t k) x ≤ 100 := fun x hx => by
      obtain ⟨g0, g1⟩ := seqG_in (F := F) (t := t) (k := k) (n := n) (j := x) (by omega)
      have := order_pct h (show (seqG F n t k x).toNat < n by omega)
      simp only [pctP]
      omega
    obtain ⟨r1, r2, r3⟩ := kept_ok h1 (fun x hx => hP x (by omega))
    obtain ⟨d1, _, _, _⟩ := fracB_true r1
    obtain ⟨q1, q2, q3⟩ := pct_red (pctP F (seqG F n t k) j) (by have := hP j (by omega); omega)
    have hc1 : 1 ≤ redD (pctP F (seqG F n t k) j) 100 := (fracB_true (show fracB (redN _ 100) (redD _ 100) = true from q1)).1
    obtain ⟨g0, g1⟩ := seqG_in (F := F) (t := t) (k := k) (n := n) (j := j) (by omega)
    have hs : redD (pctP F (seqG F n t k) j) 100 ≤ 10 := pct_small (hp _ (show (seqG F n t k j).toNat < n by omega))
    have hU : keptP F (seqG F n t k) (j + 1) = (redN ((keptP F (seqG F n t k) j).1 * redN (pctP F (seqG F n t k) j) 100) ((keptP F (seqG F n t k) j).2 * redD (pctP F (seqG F n t k) j) 100), redD ((keptP F (seqG F n t k) j).1 * redN (pctP F (seqG F n t k) j) 100) ((keptP F (seqG F n t k) j).2 * redD (pctP F (seqG F n t k) j) 100)) := rfl
    have hK : keptK F (seqG F n t k) (j + 1) = (keptK F (seqG F n t k) j && redB ((keptP F (seqG F n t k) j).1 * redN (pctP F (seqG F n t k) j) 100) ((keptP F (seqG F n t k) j).2 * redD (pctP F (seqG F n t k) j) 100)) := rfl
    rw [hU, hK, h1, Bool.true_and]
    generalize (keptP F (seqG F n t k) j).1 = N at *
    generalize (keptP F (seqG F n t k) j).2 = D at *
    generalize redN (pctP F (seqG F n t k) j) 100 = c at *
    generalize redD (pctP F (seqG F n t k) j) 100 = d at *
    have m1 : D * d ≤ 10 ^ j * 10 := Nat.mul_le_mul h2 hs
    have m2 : N * c ≤ D * d := Nat.mul_le_mul r2 q2
    have m3 : 1 ≤ D * d := Nat.mul_pos d1 hc1
    have m4 : (10 : Nat) ^ (j + 1) ≤ 10 ^ 4 := Nat.pow_le_pow_right (by omega) (by omega)
    have m5 : (10 : Nat) ^ j * 10 = 10 ^ (j + 1) := rfl
    have l1 : redN (N * c) (D * d) ≤ N * c := Nat.div_le_self _ _
    have l2 : redD (N * c) (D * d) ≤ D * d := Nat.div_le_self _ _
    have l3 : 1 ≤ redD (N * c) (D * d) := by
      have := (red_mul (N * c) (D * d)).2
      rcases Nat.eq_zero_or_pos (redD (N * c) (D * d)) with h0 | h0
      · rw [h0, Nat.mul_zero] at this; omega
      · exact h0
    refine ⟨?_, by rw [m5] at m1; exact Nat.le_trans l2 m1⟩
    unfold redB fracB
    rw [decide_eq_true l3, decide_eq_true (show redD (N * c) (D * d) ≤ 1000000 by omega), decide_eq_true (show redN (N * c) (D * d) ≤ 1000000000000 by omega), decide_eq_true (red_gcd m3)]
    rfl
theorem lateL_mem (F : Nat → Nat → Int) : ∀ n, ∀ x ∈ lateL F n, 0 ≤ x ∧ x < n ∧ F x.toNat 0 < F x.toNat 1
  | 0, x, h => by simp [lateL] at h
  | n + 1, x, h => by
    simp only [lateL] at h
    split at h
    · rename_i hc
      rcases List.mem_append.1 h with h1 | h1
      · have := lateL_mem F n x h1; exact ⟨this.1, by omega, this.2.2⟩
      · simp only [List.mem_singleton] at h1; subst h1; exact ⟨by omega, by omega, by simpa using hc⟩
    · have := lateL_mem F n x h; exact ⟨this.1, by omega, this.2.2⟩
theorem lateR_at {F : Nat → Nat → Int} {n i : Nat} (h : ordersB F n = true) (hi : i < (lateR F n).length) : 0 ≤ (lateR F n).getD i 0 ∧ (lateR F n).getD i 0 < n ∧ F ((lateR F n).getD i 0).toNat 0 < F ((lateR F n).getD i 0).toNat 1 := by
  refine lateL_mem F n _ ?_
  have e : lateR F n = lateL F n := by simp [lateR, h]
  rw [List.getD_eq_getElem?_getD, List.getElem?_eq_getElem hi, ← e]
  exact List.getElem_mem _
end Go.Proofs.Ytebgkmmmjmipnaa
