/- Plain words on annuities: more years give more, and the bounds for the whole life become narrower. -/
import Derived.Test.YtjmibbjachgofaaPlainS
import Derived.Test.YtjmibbjachgofaaPlainBand
import Derived.Test.YtjmibbjachgofaaWhole
namespace Go.Proofs.Ytjmibbjachgofaa

section
variable {l h : Int} (h0 : 0 ≤ l) (h1 : l ≤ h) (h2 : h ≤ 1000000000) {S : Nat → Int} (hS : ∀ y, 0 ≤ S y ∧ S y ≤ 1000000000) (hD : ∀ y, S (y + 1) ≤ S y)
include h0 h1 h2 hS
theorem val_eq (y : Nat) : valL l h (S y) y = (powP l h y).1 * S y / 1000000000 ∧ valH l h (S y) y = ((powP l h y).2 * S y + 1000000000 - 1) / 1000000000 := by
  obtain ⟨a, b, c⟩ := pow_inv h0 h1 h2 y
  obtain ⟨d, e⟩ := hS y
  have hB := mulB_of a b (by omega) d (Int.le_refl (S y)) (by omega)
  exact ⟨by unfold valL; rw [mulL_of hB], by unfold valH; rw [mulH_of hB]⟩
theorem val_bd (y : Nat) : 0 ≤ valL l h (S y) y ∧ valL l h (S y) y ≤ valH l h (S y) y ∧ valH l h (S y) y ≤ 1000000000 := by
  obtain ⟨e1, e2⟩ := val_eq h0 h1 h2 hS y
  rw [e1, e2]
  obtain ⟨a, b, c⟩ := pow_inv h0 h1 h2 y
  obtain ⟨d, e⟩ := hS y
  have k1 : 0 ≤ (powP l h y).1 * S y := Int.mul_nonneg a d
  have k2 : (powP l h y).1 * S y ≤ (powP l h y).2 * S y := Int.mul_le_mul_of_nonneg_right b d
  have k3 : (powP l h y).2 * S y ≤ 1000000000 * 1000000000 := Int.mul_le_mul c e d (by omega)
  omega
include hD in
theorem valH_down (y : Nat) : valH l h (S (y + 1)) (y + 1) ≤ valH l h (S y) y := by
  rw [(val_eq h0 h1 h2 hS y).2, (val_eq h0 h1 h2 hS (y + 1)).2]
  obtain ⟨a, b, c⟩ := pow_inv h0 h1 h2 y
  obtain ⟨a', b', c'⟩ := pow_inv h0 h1 h2 (y + 1)
  have k := (pow_down h0 h1 h2 y).2
  have k1 : (powP l h (y + 1)).2 * S (y + 1) ≤ (powP l h y).2 * S y := Int.mul_le_mul k (hD y) (hS (y + 1)).1 (by omega)
  omega
include hD in
theorem valH_downs (y : Nat) : ∀ d, valH l h (S (y + d)) (y + d) ≤ valH l h (S y) y
  | 0 => Int.le_refl _
  | d + 1 => Int.le_trans (valH_down h0 h1 h2 hS hD (y + d)) (valH_downs y d)
theorem ann_sum : ∀ k, k ≤ 120 → annP l h S k = (sumI (fun y => valL l h (S y) y) k, sumI (fun y => valH l h (S y) y) k) ∧ 0 ≤ sumI (fun y => valL l h (S y) y) k ∧ sumI (fun y => valL l h (S y) y) k ≤ sumI (fun y => valH l h (S y) y) k ∧ sumI (fun y => valH l h (S y) y) k ≤ 1000000000 * k
  | 0, _ => by simp [annP, sumI]
  | k + 1, hk => by
    obtain ⟨e, a, b, c⟩ := ann_sum k (by omega)
    obtain ⟨x, y, z⟩ := val_bd h0 h1 h2 hS k
    have hB : bandAddB (sumI (fun y => valL l h (S y) y) k) (sumI (fun y => valH l h (S y) y) k) (valL l h (S k) k) (valH l h (S k) k) = true := by
      have b1 : bandOkB (sumI (fun y => valL l h (S y) y) k) (sumI (fun y => valH l h (S y) y) k) = true := bandOkB_true.2 ⟨a, b, by omega⟩
      have b2 : bandOkB (valL l h (S k) k) (valH l h (S k) k) = true := bandOkB_true.2 ⟨x, y, by omega⟩
      have b3 : bandOkB (sumI (fun y => valL l h (S y) y) k + valL l h (S k) k) (sumI (fun y => valH l h (S y) y) k + valH l h (S k) k) = true := bandOkB_true.2 ⟨by omega, by omega, by omega⟩
      simp only [bandAddB, b1, b2, b3, Bool.and_self]
    refine ⟨?_, ?_, ?_, ?_⟩
    · simp only [annP, e, bandAddL, bandAddH, hB, if_true, sumI]
    · simp only [sumI]; omega
    · simp only [sumI]; omega
    · simp only [sumI]; omega
theorem sumL_up (k : Nat) : ∀ d, sumI (fun y => valL l h (S y) y) k ≤ sumI (fun y => valL l h (S y) y) (k + d)
  | 0 => Int.le_refl _
  | d + 1 => by
    have a := sumL_up k d
    have b := (val_bd h0 h1 h2 hS (k + d)).1
    show _ ≤ sumI (fun y => valL l h (S y) y) (k + d) + valL l h (S (k + d)) (k + d)
    omega
include hD in
theorem sumH_tail (k : Nat) : ∀ d : Nat, sumI (fun y => valH l h (S y) y) (k + d) ≤ sumI (fun y => valH l h (S y) y) k + d * valH l h (S k) k
  | 0 => by simp
  | d + 1 => by
    have a := sumH_tail k d
    have b := valH_downs h0 h1 h2 hS hD k d
    show sumI (fun y => valH l h (S y) y) (k + d) + valH l h (S (k + d)) (k + d) ≤ _
    have e : ((d + 1 : Nat) : Int) * valH l h (S k) k = d * valH l h (S k) k + valH l h (S k) k := by
      rw [Int.natCast_add, Int.add_mul]; simp
    omega
end
theorem ann_true {f : Int} {n : Nat} {F : Nat → Int} {age rate : Int} (ht : tableB f n F = true) (a0 : 0 ≤ age) (a1 : age ≤ 120) (r0 : 0 ≤ rate) (r1 : rate ≤ 1000) (k : Nat) (hk : k ≤ 120) : annB f n F age rate k = true := by
  have a : inB age 0 120 = true := inB_true.2 ⟨a0, a1⟩
  have b : inB (k : Int) 0 120 = true := inB_true.2 ⟨by omega, by omega⟩
  have c : inB 1000000000 0 1000000000 = true := by decide
  have d : inB rate 0 1000 = true := inB_true.2 ⟨r0, r1⟩
  simp [annB, survB, ht, a, b, c, d]
theorem annuities {f : Int} {n : Nat} {F : Nat → Int} {age rate : Int} (ht : tableB f n F = true) (a0 : 0 ≤ age) (a1 : age ≤ 120) (r0 : 0 ≤ rate) (r1 : rate ≤ 1000) (k : Nat) (hk : k ≤ 100) :
    annL f n F age rate k ≤ annL f n F age rate (k + 1) ∧ annH f n F age rate k ≤ annH f n F age rate (k + 1) ∧
    bandWithinB (annL f n F age rate 120) (annH f n F age rate 120) (wholeL f n F age rate k) (wholeH f n F age rate k + 1000) = true ∧ wholeL f n F age rate k = annL f n F age rate k ∧ 0 ≤ wholeH f n F age rate k ∧ wholeH f n F age rate k ≤ 1000000000000 := by
  obtain ⟨d0, d1, d2, _⟩ := discount_bd r0 r1
  have hS : ∀ y, 0 ≤ survP f n F age 1000000000 y ∧ survP f n F age 1000000000 y ≤ 1000000000 := fun y => survP_bd (by omega) (by omega) y
  have hD : ∀ y, survP f n F age 1000000000 (y + 1) ≤ survP f n F age 1000000000 y := fun y => surv_down (by omega) (by omega) y
  have t1 := ann_true ht a0 a1 r0 r1 k (by omega)
  have t2 := ann_true ht a0 a1 r0 r1 (k + 1) (by omega)
  have t3 := ann_true ht a0 a1 r0 r1 120 (by omega)
  have e2 : ((k + 1 : Nat) : Int) = (k : Int) + 1 := by omega
  rw [e2] at t2
  have n2 : ((k : Int) + 1).toNat = k + 1 := by omega
  obtain ⟨s1, u1, v1, w1⟩ := ann_sum d0 d1 d2 hS k (by omega)
  obtain ⟨s2, u2, v2, w2⟩ := ann_sum d0 d1 d2 hS (k + 1) (by omega)
  obtain ⟨s3, u3, v3, w3⟩ := ann_sum d0 d1 d2 hS 120 (by omega)
  obtain ⟨x0, x1, x2⟩ := val_bd d0 d1 d2 hS k
  have m1 := sumL_up d0 d1 d2 hS k (120 - k)
  have m2 := sumH_tail d0 d1 d2 hS hD k (120 - k)
  have e3 : k + (120 - k) = 120 := by omega
  rw [e3] at m1 m2
  have t3' : annB f n F age rate 120 = true := t3
  have LK : annL f n F age rate k = sumI (fun y => valL (discountL rate) (discountH rate) (survP f n F age 1000000000 y) y) k := by unfold annL; rw [if_pos t1, Int.toNat_natCast, s1]
  have HK : annH f n F age rate k = sumI (fun y => valH (discountL rate) (discountH rate) (survP f n F age 1000000000 y) y) k := by unfold annH; rw [if_pos t1, Int.toNat_natCast, s1]
  have LK1 : annL f n F age rate (k + 1) = sumI (fun y => valL (discountL rate) (discountH rate) (survP f n F age 1000000000 y) y) (k + 1) := by unfold annL; rw [if_pos t2, n2, s2]
  have HK1 : annH f n F age rate (k + 1) = sumI (fun y => valH (discountL rate) (discountH rate) (survP f n F age 1000000000 y) y) (k + 1) := by unfold annH; rw [if_pos t2, n2, s2]
  have LA : annL f n F age rate 120 = sumI (fun y => valL (discountL rate) (discountH rate) (survP f n F age 1000000000 y) y) 120 := by unfold annL; rw [if_pos t3', show (120 : Int).toNat = 120 from rfl, s3]
  have HA : annH f n F age rate 120 = sumI (fun y => valH (discountL rate) (discountH rate) (survP f n F age 1000000000 y) y) 120 := by unfold annH; rw [if_pos t3', show (120 : Int).toNat = 120 from rfl, s3]
  have RT : restH f n F age rate k = valH (discountL rate) (discountH rate) (survP f n F age 1000000000 k) k * 120 := by
    have b1 : bandOkB (valL (discountL rate) (discountH rate) (survP f n F age 1000000000 k) k) (valH (discountL rate) (discountH rate) (survP f n F age 1000000000 k) k) = true := bandOkB_true.2 ⟨x0, x1, by omega⟩
    have b2 : bandOkB (valL (discountL rate) (discountH rate) (survP f n F age 1000000000 k) k * 120) (valH (discountL rate) (discountH rate) (survP f n F age 1000000000 k) k * 120) = true := bandOkB_true.2 ⟨by omega, by omega, by omega⟩
    have b3 : inB 120 0 1000 = true := by decide
    unfold restH
    simp only [Int.toNat_natCast, bandTimesH, bandTimesB, b1, b2, b3, Bool.and_self, if_true]
  have WH : wholeH f n F age rate k = annH f n F age rate k + restH f n F age rate k := by unfold wholeH; rw [if_pos t1]
  have m3 : ((120 - k : Nat) : Int) * valH (discountL rate) (discountH rate) (survP f n F age 1000000000 k) k ≤ 120 * valH (discountL rate) (discountH rate) (survP f n F age 1000000000 k) k := Int.mul_le_mul_of_nonneg_right (by omega) (by omega)
  have m4 : sumI (fun y => valL (discountL rate) (discountH rate) (survP f n F age 1000000000 y) y) k ≤ sumI (fun y => valL (discountL rate) (discountH rate) (survP f n F age 1000000000 y) y) (k + 1) := sumL_up d0 d1 d2 hS k 1
  have m5 : sumI (fun y => valH (discountL rate) (discountH rate) (survP f n F age 1000000000 y) y) (k + 1) = sumI (fun y => valH (discountL rate) (discountH rate) (survP f n F age 1000000000 y) y) k + valH (discountL rate) (discountH rate) (survP f n F age 1000000000 k) k := rfl
  refine ⟨by rw [LK, LK1]; exact m4, by rw [HK, HK1, m5]; omega, ?_, rfl, by rw [WH, HK, RT]; omega, by rw [WH, HK, RT]; omega⟩
  show bandWithinB _ _ (annL f n F age rate k) _ = true
  rw [LA, HA, LK, WH, HK, RT]
  have b1 : bandOkB (sumI (fun y => valL (discountL rate) (discountH rate) (survP f n F age 1000000000 y) y) 120) (sumI (fun y => valH (discountL rate) (discountH rate) (survP f n F age 1000000000 y) y) 120) = true := bandOkB_true.2 ⟨u3, v3, by omega⟩
  have b2 : bandOkB (sumI (fun y => valL (discountL rate) (discountH rate) (survP f n F age 1000000000 y) y) k) (sumI (fun y => valH (discountL rate) (discountH rate) (survP f n F age 1000000000 y) y) k + valH (discountL rate) (discountH rate) (survP f n F age 1000000000 k) k * 120 + 1000) = true := bandOkB_true.2 ⟨u1, by omega, by omega⟩
  simp only [bandWithinB, b1, b2, Bool.true_and, Bool.and_eq_true, decide_eq_true_eq]
  omega
end Go.Proofs.Ytjmibbjachgofaa
