/- Plain law: sums and products of bounds contain the sums and products of the numbers. -/
import Derived.Test.YtjmibbjachgofaaPlainBand
namespace Go.Proofs.Ytjmibbjachgofaa

theorem has_of {l h n d : Int} (l0 : 0 ≤ l) (l1 : l ≤ h) (h1 : h ≤ 1000000000000000) (n0 : 0 ≤ n) (n1 : n ≤ 1000000) (d0 : 1 ≤ d) (d1 : d ≤ 1000) (k0 : l * d ≤ n * 1000000000) (k1 : n * 1000000000 ≤ h * d) : bandHasB l h n d = true := by
  have a1 : bandOkB l h = true := bandOkB_true.2 ⟨l0, l1, h1⟩
  have a2 : inB n 0 1000000 = true := inB_true.2 ⟨n0, n1⟩
  have a3 : inB d 1 1000 = true := inB_true.2 ⟨d0, d1⟩
  simp [bandHasB, a1, a2, a3, k0, k1]
theorem band_small {a b : Int} (a0 : 0 ≤ a) (a1 : a ≤ 59) (b0 : 1 ≤ b) (b1 : b ≤ 30) : bandOfB a b = true ∧ 0 ≤ bandOfL a b ∧ bandOfL a b ≤ bandOfH a b ∧ bandOfH a b ≤ 59000000000 ∧ bandOfH a b ≤ bandOfL a b + 1 ∧ bandOfL a b * b ≤ a * 1000000000 ∧ a * 1000000000 ≤ bandOfH a b * b ∧ (a ≤ 3 * b → bandOfH a b ≤ 3000000000) := by
  have c1 : inB a 0 1000000 = true := inB_true.2 ⟨by omega, by omega⟩
  have c2 : inB b 1 1000000 = true := inB_true.2 ⟨by omega, by omega⟩
  have hB : bandOfB a b = true := by simp [bandOfB, c1, c2]
  have e1 : bandOfL a b = a * 1000000000 / b := by simp [bandOfL, hB]
  have e2 : bandOfH a b = (a * 1000000000 + b - 1) / b := by simp [bandOfH, hB, ceilI]
  obtain ⟨f1, f2⟩ := ceil_floor (a := a * 1000000000) (d := b) (by omega)
  obtain ⟨g1, g2⟩ := div_bd (a := a * 1000000000) (d := b) (by omega)
  obtain ⟨g3, g4⟩ := ceil_bd (a := a * 1000000000) (d := b) (by omega)
  rw [e1, e2]
  refine ⟨hB, Int.ediv_nonneg (by omega) (by omega), f1, ?_, by omega, g1, g3, fun h3 => ?_⟩
  · have : (a * 1000000000 + b - 1) / b < 59000000001 := by
      apply Int.ediv_lt_of_lt_mul (by omega)
      omega
    omega
  · have : (a * 1000000000 + b - 1) / b < 3000000001 := by
      apply Int.ediv_lt_of_lt_mul (by omega)
      omega
    omega
theorem sum_has {xl xh yl yh a b c d : Int} (b0 : 1 ≤ b) (d0 : 1 ≤ d) (h1 : xl * b ≤ a * 1000000000) (h2 : a * 1000000000 ≤ xh * b) (h3 : yl * d ≤ c * 1000000000) (h4 : c * 1000000000 ≤ yh * d) :
    (xl + yl) * (b * d) ≤ (a * d + c * b) * 1000000000 ∧ (a * d + c * b) * 1000000000 ≤ (xh + yh) * (b * d) := by
  have e1 : (xl + yl) * (b * d) = xl * b * d + yl * d * b := by rw [Int.add_mul]; congr 1 <;> ac_rfl
  have e2 : (xh + yh) * (b * d) = xh * b * d + yh * d * b := by rw [Int.add_mul]; congr 1 <;> ac_rfl
  have e3 : (a * d + c * b) * 1000000000 = a * 1000000000 * d + c * 1000000000 * b := by rw [Int.add_mul]; congr 1 <;> ac_rfl
  have i1 : xl * b * d ≤ a * 1000000000 * d := Int.mul_le_mul_of_nonneg_right h1 (by omega)
  have i2 : a * 1000000000 * d ≤ xh * b * d := Int.mul_le_mul_of_nonneg_right h2 (by omega)
  have i3 : yl * d * b ≤ c * 1000000000 * b := Int.mul_le_mul_of_nonneg_right h3 (by omega)
  have i4 : c * 1000000000 * b ≤ yh * d * b := Int.mul_le_mul_of_nonneg_right h4 (by omega)
  rw [e1, e2, e3]
  exact ⟨by omega, by omega⟩
theorem times_has {xl xh a b k : Int} (k0 : 0 ≤ k) (h1 : xl * b ≤ a * 1000000000) (h2 : a * 1000000000 ≤ xh * b) : xl * k * b ≤ a * k * 1000000000 ∧ a * k * 1000000000 ≤ xh * k * b := by
  have i1 : xl * b * k ≤ a * 1000000000 * k := Int.mul_le_mul_of_nonneg_right h1 k0
  have i2 : a * 1000000000 * k ≤ xh * b * k := Int.mul_le_mul_of_nonneg_right h2 k0
  rw [show xl * k * b = xl * b * k by ac_rfl, show xh * k * b = xh * b * k by ac_rfl, show a * k * 1000000000 = a * 1000000000 * k by ac_rfl]
  exact ⟨i1, i2⟩
theorem prod_has {xl xh yl yh a b c d : Int} (b0 : 1 ≤ b) (d0 : 1 ≤ d) (a0 : 0 ≤ a) (c0 : 0 ≤ c) (y0 : 0 ≤ yl) (x1 : 0 ≤ xh) (h1 : xl * b ≤ a * 1000000000) (h2 : a * 1000000000 ≤ xh * b) (h3 : yl * d ≤ c * 1000000000) (h4 : c * 1000000000 ≤ yh * d) :
    xl * yl / 1000000000 * (b * d) ≤ a * c * 1000000000 ∧ a * c * 1000000000 ≤ (xh * yh + 1000000000 - 1) / 1000000000 * (b * d) := by
  have bd : 0 ≤ b * d := Int.mul_nonneg (by omega) (by omega)
  have i1 : xl * b * (yl * d) ≤ a * 1000000000 * (c * 1000000000) := Int.mul_le_mul h1 h3 (Int.mul_nonneg y0 (by omega)) (by omega)
  have i2 : a * 1000000000 * (c * 1000000000) ≤ xh * b * (yh * d) := Int.mul_le_mul h2 h4 (by omega) (Int.mul_nonneg x1 (by omega))
  have e1 : xl * b * (yl * d) = xl * yl * (b * d) := by ac_rfl
  have e2 : xh * b * (yh * d) = xh * yh * (b * d) := by ac_rfl
  have e3 : a * 1000000000 * (c * 1000000000) = a * c * 1000000000 * 1000000000 := by ac_rfl
  have j1 : xl * yl / 1000000000 * 1000000000 ≤ xl * yl := by omega
  have j2 : xh * yh ≤ (xh * yh + 1000000000 - 1) / 1000000000 * 1000000000 := by omega
  have m1 : xl * yl / 1000000000 * 1000000000 * (b * d) ≤ xl * yl * (b * d) := Int.mul_le_mul_of_nonneg_right j1 bd
  have m2 : xh * yh * (b * d) ≤ (xh * yh + 1000000000 - 1) / 1000000000 * 1000000000 * (b * d) := Int.mul_le_mul_of_nonneg_right j2 bd
  rw [show xl * yl / 1000000000 * 1000000000 * (b * d) = xl * yl / 1000000000 * (b * d) * 1000000000 by ac_rfl] at m1
  rw [show (xh * yh + 1000000000 - 1) / 1000000000 * 1000000000 * (b * d) = (xh * yh + 1000000000 - 1) / 1000000000 * (b * d) * 1000000000 by ac_rfl] at m2
  exact ⟨by omega, by omega⟩
theorem prod_width {xl xh yl yh : Int} (x0 : 0 ≤ xl) (y0 : 0 ≤ yl) (x1 : xl ≤ xh) (y1 : yl ≤ yh) (x2 : xh ≤ xl + 1) (y2 : yh ≤ yl + 1) (x3 : xh ≤ 3000000000) (y3 : yh ≤ 3000000000) :
    xl * yl / 1000000000 ≤ (xh * yh + 1000000000 - 1) / 1000000000 ∧ (xh * yh + 1000000000 - 1) / 1000000000 - xl * yl / 1000000000 ≤ 10 ∧ 0 ≤ xl * yl / 1000000000 ∧ (xh * yh + 1000000000 - 1) / 1000000000 ≤ 9000000001 := by
  have i0 : 0 ≤ xl * yl := Int.mul_nonneg x0 y0
  have i1 : xl * yl ≤ xh * yh := Int.mul_le_mul x1 y1 y0 (by omega)
  have i2 : xh * yh ≤ (xl + 1) * (yl + 1) := Int.mul_le_mul x2 y2 (by omega) (by omega)
  have e : (xl + 1) * (yl + 1) = xl * yl + xl + yl + 1 := by rw [Int.add_mul, Int.mul_add]; omega
  have i3 : xh * yh ≤ 3000000000 * 3000000000 := Int.mul_le_mul x3 y3 (by omega) (by omega)
  omega
theorem add_val {al ah bl bh : Int} (a1 : 0 ≤ al) (a2 : al ≤ ah) (b1 : 0 ≤ bl) (b2 : bl ≤ bh) (h : ah + bh ≤ 1000000000000000) : bandAddB al ah bl bh = true ∧ bandAddL al ah bl bh = al + bl ∧ bandAddH al ah bl bh = ah + bh := by
  have c1 : bandOkB al ah = true := bandOkB_true.2 ⟨a1, a2, by omega⟩
  have c2 : bandOkB bl bh = true := bandOkB_true.2 ⟨b1, b2, by omega⟩
  have c3 : bandOkB (al + bl) (ah + bh) = true := bandOkB_true.2 ⟨by omega, by omega, h⟩
  have hB : bandAddB al ah bl bh = true := by simp [bandAddB, c1, c2, c3]
  exact ⟨hB, by simp [bandAddL, hB], by simp [bandAddH, hB]⟩
theorem times_val {l h k : Int} (a1 : 0 ≤ l) (a2 : l ≤ h) (a3 : h ≤ 1000000000000) (k0 : 0 ≤ k) (k1 : k ≤ 1000) : bandTimesB l h k = true ∧ bandTimesL l h k = l * k ∧ bandTimesH l h k = h * k ∧ 0 ≤ l * k ∧ l * k ≤ h * k ∧ h * k ≤ 1000000000000000 := by
  obtain ⟨p0, p1⟩ := mul_bd (a := h) (b := k) (A := 1000000000000) (B := 1000) (by omega) a3 k0 k1
  have p2 : l * k ≤ h * k := Int.mul_le_mul_of_nonneg_right a2 k0
  have p3 : 0 ≤ l * k := Int.mul_nonneg a1 k0
  have c1 : bandOkB l h = true := bandOkB_true.2 ⟨a1, a2, by omega⟩
  have c2 : inB k 0 1000 = true := inB_true.2 ⟨k0, k1⟩
  have c3 : bandOkB (l * k) (h * k) = true := bandOkB_true.2 ⟨p3, p2, by omega⟩
  have hB : bandTimesB l h k = true := by simp [bandTimesB, c1, c2, c3]
  exact ⟨hB, by simp [bandTimesL, hB], by simp [bandTimesH, hB], p3, p2, by omega⟩
end Go.Proofs.Ytjmibbjachgofaa
