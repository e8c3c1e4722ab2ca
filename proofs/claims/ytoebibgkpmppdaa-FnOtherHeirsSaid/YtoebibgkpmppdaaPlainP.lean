/- Plain words on payments to heirs: never below zero, never more than the total together, nothing to those who are not entitled. -/
import Derived.Test.YtoebibgkpmppdaaHeirPay
import Derived.Test.YtoebibgkpmppdaaPlainH
import Derived.Test.YtoebibgkpmppdaaLast
namespace Go.Proofs.Ytoebibgkpmppdaa

theorem maxI_ge {F : Nat → Nat → Int} : ∀ {m i : Nat}, i < m → F i 2 ≤ maxI F m
  | 0, _, h => by omega
  | m + 1, i, h => by
    simp only [maxI]
    rcases Nat.lt_or_ge i m with h1 | h1
    · have := maxI_ge (F := F) h1
      split <;> omega
    · obtain rfl : i = m := by omega
      split <;> omega
theorem sumI_cents {T : Int} {W : Nat → Int} : ∀ n, 100 * sumI (fun i => T * W i / 100) n ≤ T * sumI W n
  | 0 => by simp [sumI]
  | n + 1 => by
    have := sumI_cents (T := T) (W := W) n
    simp only [sumI, Int.mul_add]
    omega
section
variable {F : Nat → Nat → Int} {n : Nat} {T t : Int}
theorem payB_mk (h : heirsB F n = true) (t0 : 0 ≤ T) (t1 : T ≤ 1000000000) : payB F n T = true := by
  have q : inB T 0 1000000000 = true := inB_true.2 ⟨t0, t1⟩
  simp [payB, h, q]
theorem payB_parts (h : payB F n T = true) : heirsB F n = true ∧ 0 ≤ T ∧ T ≤ 1000000000 := by
  simp only [payB, Bool.and_eq_true] at h
  exact ⟨h.1, inB_true.1 h.2⟩
theorem pay_low (h : payB F n T = true) {i : Nat} (hi : i < n) : 0 ≤ payG F n T t i := by
  obtain ⟨hh, t0, _⟩ := payB_parts h
  unfold payG
  split
  · rename_i hs; exact (heir_parts h hs).nonneg hi
  · exact Int.ediv_nonneg (Int.mul_nonneg t0 (heirW_bd hh t hi).1) (by decide)
theorem pay_none (h : payB F n T = true) {i : Nat} (hw : heirW F n t i = 0) : payG F n T t i = 0 := by
  unfold payG
  split
  · rename_i hs; exact (heir_parts h hs).pos hw
  · rw [hw]; simp
theorem pay_sum (h : payB F n T = true) : sumI (payG F n T t) n ≤ T := by
  obtain ⟨hh, t0, _⟩ := payB_parts h
  by_cases hs : 100 < sumI (heirW F n t) n
  · have e : payG F n T t = alcG T (heirW F n t) n := by funext i; simp only [payG]; rw [if_pos hs]
    rw [e, (heir_parts h hs).sum]
    exact Int.le_refl _
  · have e : payG F n T t = fun i => T * heirW F n t i / 100 := by funext i; simp only [payG]; rw [if_neg hs]
    rw [e]
    have h1 := sumI_cents (T := T) (W := heirW F n t) n
    have h2 : T * sumI (heirW F n t) n ≤ T * 100 := Int.mul_le_mul_of_nonneg_left (by omega) t0
    omega
theorem pay_most (h : payB F n T = true) {i : Nat} (hi : i < n) : payG F n T t i ≤ T := by
  have := sumI_one (f := payG F n T t) (fun i hi => pay_low h hi) hi
  have := pay_sum (t := t) h
  omega
theorem pay_sum_low (h : payB F n T = true) : ∀ {k : Nat}, k ≤ n → 0 ≤ sumI (payG F n T t) k ∧ sumI (payG F n T t) k ≤ T * k := fun {k} hk =>
  ⟨sumI_nonneg fun i hi => pay_low h (by omega), sumI_le fun i hi => pay_most h (by omega)⟩
theorem pay_late (h : payB F n T = true) (ht : lastI F n < t) {i : Nat} (hi : i < n) : payG F n T t i = 0 := by
  obtain ⟨hh, _, _⟩ := payB_parts h
  refine pay_none h ?_
  have h1 := maxI_ge (F := F) hi
  have h2 : decide (F i 2 ≤ t) = true := by
    unfold lastI at ht
    rw [if_pos hh] at ht
    simp; omega
  unfold heirW
  rw [entB_late h2, if_neg (by decide)]
theorem pay_ent (h : payB F n T = true) {i : Nat} (he : entB F n t (n + 1) i = false) : payG F n T t i = 0 :=
  pay_none h (by unfold heirW; rw [he, if_neg (by decide)])
theorem pay_twice (h : payB F n T = true) (h2 : payB F n (2 * T) = true) {i : Nat} (hi : i < n) : 2 * payG F n T t i - 2 ≤ payG F n (2 * T) t i := by
  obtain ⟨hh, t0, _⟩ := payB_parts h
  have hw := heirW_bd hh t hi
  by_cases hs : 100 < sumI (heirW F n t) n
  · simp only [payG]
    rw [if_pos hs, if_pos hs]
    have a := (heir_parts h hs).val i
    have b := (heir_parts h2 hs).val i
    have c : 2 * alF T (heirW F n t) n i ≤ alF (2 * T) (heirW F n t) n i := by
      unfold alF
      have hs0 : 0 < sumI (heirW F n t) n := by omega
      rw [Int.le_ediv_iff_mul_le hs0, Int.mul_assoc 2 T, Int.mul_assoc 2]
      have := Int.ediv_mul_le (T * heirW F n t i) (show sumI (heirW F n t) n ≠ 0 by omega)
      omega
    have d : alcG T (heirW F n t) n i ≤ alF T (heirW F n t) n i + 1 := by rcases a with a | ⟨a, _⟩ <;> omega
    have e : alF (2 * T) (heirW F n t) n i ≤ alcG (2 * T) (heirW F n t) n i := by rcases b with b | ⟨b, _⟩ <;> omega
    omega
  · simp only [payG]
    rw [if_neg hs, if_neg hs, Int.mul_assoc]
    omega
end
end Go.Proofs.Ytoebibgkpmppdaa
