/- Plain laws on bands and their powers: numbers alone, no program. -/
import Derived.Test.YtjmibbjachgofaaPowW
namespace Go.Proofs.Ytjmibbjachgofaa

theorem mulL_of {al ah bl bh : Int} (h : bandMulB al ah bl bh = true) : bandMulL al ah bl bh = al * bl / 1000000000 := by simp [bandMulL, h]
theorem mulH_of {al ah bl bh : Int} (h : bandMulB al ah bl bh = true) : bandMulH al ah bl bh = (ah * bh + 1000000000 - 1) / 1000000000 := by simp [bandMulH, h, ceilI]
theorem mulB_of {al ah bl bh : Int} (a1 : 0 ≤ al) (a2 : al ≤ ah) (a3 : ah ≤ 3000000000) (b1 : 0 ≤ bl) (b2 : bl ≤ bh) (b3 : bh ≤ 3000000000) : bandMulB al ah bl bh = true := by
  have h1 : bandOkB al ah = true := bandOkB_true.2 ⟨a1, a2, by omega⟩
  have h2 : bandOkB bl bh = true := bandOkB_true.2 ⟨b1, b2, by omega⟩
  simp [bandMulB, h1, h2, a3, b3]
/-- One more power of a discount: the bounds go down, stay in order, and part by at most 2 more. -/
theorem mul_step {al ah l h : Int} (a1 : 0 ≤ al) (a2 : al ≤ ah) (a3 : ah ≤ 1000000000) (b1 : 0 ≤ l) (b2 : l ≤ h) (b3 : h ≤ 1000000000) :
    0 ≤ bandMulL al ah l h ∧ bandMulL al ah l h ≤ bandMulH al ah l h ∧ bandMulH al ah l h ≤ ah ∧ bandMulL al ah l h ≤ al ∧ (h - l ≤ 1 → bandMulH al ah l h - bandMulL al ah l h ≤ ah - al + 2) := by
  have hB := mulB_of a1 a2 (by omega) b1 b2 (by omega)
  rw [mulL_of hB, mulH_of hB]
  have p0 : 0 ≤ al * l := Int.mul_nonneg a1 b1
  have p1 : al * l ≤ ah * h := Int.mul_le_mul a2 b2 b1 (by omega)
  have p2 : ah * h ≤ ah * 1000000000 := Int.mul_le_mul_of_nonneg_left b3 (by omega)
  have p3 : al * l ≤ al * 1000000000 := Int.mul_le_mul_of_nonneg_left (by omega) a1
  refine ⟨by omega, by omega, by omega, by omega, fun hd => ?_⟩
  have e : ah * h - al * l = ah * (h - l) + (ah - al) * l := by rw [Int.mul_sub, Int.sub_mul]; omega
  have p4 : ah * (h - l) ≤ ah * 1 := Int.mul_le_mul_of_nonneg_left hd (by omega)
  have p5 : (ah - al) * l ≤ (ah - al) * 1000000000 := Int.mul_le_mul_of_nonneg_left (by omega) (by omega)
  have p6 : ah * h - al * l ≤ 1000000000 + (ah - al) * 1000000000 := by omega
  omega
section
variable {l h : Int} (h0 : 0 ≤ l) (h1 : l ≤ h) (h2 : h ≤ 1000000000)
include h0 h1 h2
theorem pow_inv : ∀ n, 0 ≤ (powP l h n).1 ∧ (powP l h n).1 ≤ (powP l h n).2 ∧ (powP l h n).2 ≤ 1000000000
  | 0 => by simp [powP]
  | n + 1 => by
    obtain ⟨a, b, c⟩ := pow_inv n
    obtain ⟨d, e, f, g, _⟩ := mul_step a b c h0 h1 h2
    simp only [powP]
    exact ⟨d, e, by omega⟩
theorem pow_down (n : Nat) : (powP l h (n + 1)).1 ≤ (powP l h n).1 ∧ (powP l h (n + 1)).2 ≤ (powP l h n).2 := by
  obtain ⟨a, b, c⟩ := pow_inv h0 h1 h2 n
  obtain ⟨d, e, f, g, _⟩ := mul_step a b c h0 h1 h2
  simp only [powP]
  exact ⟨g, f⟩
theorem pow_width (h3 : h - l ≤ 1) : ∀ n : Nat, (powP l h n).2 - (powP l h n).1 ≤ 2 * n
  | 0 => by simp [powP]
  | n + 1 => by
    obtain ⟨a, b, c⟩ := pow_inv h0 h1 h2 n
    obtain ⟨d, e, f, g, k⟩ := mul_step a b c h0 h1 h2
    have := pow_width h3 n
    have := k h3
    simp only [powP]
    omega
end
/-- What the discount for a rate of 0 to 1000 is. -/
theorem discount_eq {r : Int} (r0 : 0 ≤ r) (r1 : r ≤ 1000) : discountL r = 1000000000000 / (1000 + r) ∧ discountH r = (1000000000000 + (1000 + r) - 1) / (1000 + r) := by
  have c0 : inB r 0 1000 = true := inB_true.2 ⟨r0, r1⟩
  have c1 : inB 1000 0 1000000 = true := by simp [inB]
  have c2 : inB (1000 + r) 1 1000000 = true := inB_true.2 ⟨by omega, by omega⟩
  simp [discountL, discountH, c0, bandOfL, bandOfH, bandOfB, c1, c2, ceilI]
theorem div_bd {a d : Int} (hd : 0 < d) : a / d * d ≤ a ∧ a < (a / d + 1) * d := by
  have h1 := Int.mul_ediv_add_emod a d
  have h2 := Int.emod_nonneg a (show d ≠ 0 by omega)
  have h3 := Int.emod_lt_of_pos a hd
  rw [Int.mul_comm] at h1
  rw [Int.add_mul]
  omega
theorem ceil_bd {a d : Int} (hd : 0 < d) : a ≤ (a + d - 1) / d * d ∧ (a + d - 1) / d * d < a + d := by
  obtain ⟨h1, h2⟩ := div_bd (a := a + d - 1) hd
  rw [Int.add_mul] at h2
  omega
theorem ceil_floor {a d : Int} (hd : 0 < d) : a / d ≤ (a + d - 1) / d ∧ (a + d - 1) / d ≤ a / d + 1 := by
  constructor
  · exact Int.ediv_le_ediv hd (by omega)
  · have : (a + d - 1) / d ≤ (a + 1 * d) / d := Int.ediv_le_ediv hd (by omega)
    rw [Int.add_mul_ediv_right _ _ (by omega)] at this
    exact this
theorem discount_bd {r : Int} (r0 : 0 ≤ r) (r1 : r ≤ 1000) : 0 ≤ discountL r ∧ discountL r ≤ discountH r ∧ discountH r ≤ 1000000000 ∧ discountH r - discountL r ≤ 1 := by
  obtain ⟨e1, e2⟩ := discount_eq r0 r1
  rw [e1, e2]
  obtain ⟨c1, c2⟩ := ceil_floor (a := 1000000000000) (d := 1000 + r) (by omega)
  refine ⟨Int.ediv_nonneg (by omega) (by omega), c1, ?_, by omega⟩
  have : (1000000000000 + (1000 + r) - 1) / (1000 + r) < 1000000001 := by
    apply Int.ediv_lt_of_lt_mul (by omega)
    omega
  omega
theorem band_val {x y : Int} (x0 : 1 ≤ x) (x1 : x ≤ 900) (y0 : 1 ≤ y) (y1 : y ≤ 100) : bandOfB x y = true ∧ bandOfL x y = x * 1000000000 / y ∧ bandOfH x y = (x * 1000000000 + y - 1) / y ∧ 0 ≤ bandOfL x y ∧ bandOfL x y ≤ bandOfH x y ∧ bandOfH x y ≤ 900000000000 := by
  have c1 : inB x 0 1000000 = true := inB_true.2 ⟨by omega, by omega⟩
  have c2 : inB y 1 1000000 = true := inB_true.2 ⟨by omega, by omega⟩
  have hB : bandOfB x y = true := by simp [bandOfB, c1, c2]
  have e1 : bandOfL x y = x * 1000000000 / y := by simp [bandOfL, hB]
  have e2 : bandOfH x y = (x * 1000000000 + y - 1) / y := by simp [bandOfH, hB, ceilI]
  refine ⟨hB, e1, e2, ?_, ?_, ?_⟩
  · rw [e1]; exact Int.ediv_nonneg (by omega) (by omega)
  · rw [e1, e2]; exact (ceil_floor (by omega)).1
  · rw [e2]
    have : (x * 1000000000 + y - 1) / y < 900000000001 := by
      apply Int.ediv_lt_of_lt_mul (by omega)
      omega
    omega
theorem reserve_val {p l h : Int} (p0 : 0 ≤ p) (p1 : p ≤ 1000000) (l0 : 0 ≤ l) (l1 : l ≤ h) (h1 : h ≤ 1000000000000) : reserveB p l h = true ∧ p * h ≤ reserveI p l h * 1000000000 ∧ (reserveI p l h - 1) * 1000000000 < p * h ∧ 0 ≤ reserveI p l h ∧ reserveI p l h ≤ 1000000000 := by
  have c1 : bandOkB l h = true := bandOkB_true.2 ⟨l0, l1, by omega⟩
  have c2 : inB p 0 1000000 = true := inB_true.2 ⟨p0, p1⟩
  have hB : reserveB p l h = true := by simp [reserveB, c1, c2, h1]
  obtain ⟨k0, k1⟩ := mul_bd (a := p) (b := h) (A := 1000000) (B := 1000000000000) p0 p1 (by omega) h1
  have e : reserveI p l h = (p * h + 1000000000 - 1) / 1000000000 := by simp [reserveI, hB, ceilI]
  rw [e]
  exact ⟨hB, by omega, by omega, by omega, by omega⟩

theorem transfer_val {p l h : Int} (p0 : 0 ≤ p) (p1 : p ≤ 1000000) (l0 : 0 ≤ l) (l1 : l ≤ h) (h1 : h ≤ 1000000000000) : transferB p l h = true ∧ transferI p l h ≤ reserveI p l h ∧ p * l < (transferI p l h + 1) * 1000000000 ∧ 0 ≤ transferI p l h ∧ transferI p l h ≤ 1000000000 ∧ 0 ≤ p * l ∧ p * l ≤ 1000000000000000000 := by
  have c1 : bandOkB l h = true := bandOkB_true.2 ⟨l0, l1, by omega⟩
  have c2 : inB p 0 1000000 = true := inB_true.2 ⟨p0, p1⟩
  have hB : transferB p l h = true := by simp [transferB, c1, c2, h1]
  obtain ⟨k0, k1⟩ := mul_bd (a := p) (b := h) (A := 1000000) (B := 1000000000000) p0 p1 (by omega) h1
  obtain ⟨k2, k3⟩ := mul_bd (a := p) (b := l) (A := 1000000) (B := 1000000000000) p0 p1 (by omega) (by omega)
  have k4 : p * l ≤ p * h := Int.mul_le_mul_of_nonneg_left l1 p0
  obtain ⟨_, r1, r2, r3, r4⟩ := reserve_val p0 p1 l0 l1 h1
  have e : transferI p l h = (p * l + p * h) / 2000000000 := by simp [transferI, c1, c2, h1, Int.mul_add]
  rw [e]
  exact ⟨hB, by omega, by omega, by omega, by omega, k2, by omega⟩
end Go.Proofs.Ytjmibbjachgofaa
