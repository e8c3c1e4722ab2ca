/- Plain words on improved tables and on the deaths at an age. -/
import Derived.Test.YtjmibbjachgofaaTabY
import Derived.Test.YtjmibbjachgofaaImp
namespace Go.Proofs.Ytjmibbjachgofaa

theorem impV_zero (v : Int) : ∀ k, impV 0 v k = v
  | 0 => rfl
  | k + 1 => by
    simp only [impV, impV_zero v k]
    omega
theorem impV_le {p v : Int} (p0 : 0 ≤ p) (p1 : p ≤ 100) (v0 : 0 ≤ v) (v1 : v ≤ 1000000) : ∀ k, impV p v k ≤ v
  | 0 => Int.le_refl _
  | k + 1 => by
    obtain ⟨a, b⟩ := impV_bd p0 p1 v0 v1 k
    have h := impV_le p0 p1 v0 v1 k
    have c : impV p v k * (100 - p) ≤ impV p v k * 100 := Int.mul_le_mul_of_nonneg_left (by omega) a
    simp only [impV]
    omega
theorem impR_zero (f : Int) (n : Nat) (F : Nat → Int) (y : Int) (i : Nat) : impR f n F 0 y i = F i := by
  unfold impR
  split
  · exact impV_zero _ _
  · rfl
theorem impR_bd {f : Int} {n : Nat} {F : Nat → Int} (h : tableB f n F = true) (p y : Int) {i : Nat} (hi : i < n) : 0 ≤ impR f n F p y i ∧ impR f n F p y i ≤ F i := by
  obtain ⟨_, _, _, _, _, tF, _⟩ := tableB_true h
  obtain ⟨a, b⟩ := tF i hi
  unfold impR
  split
  · rename_i hc
    have hb := hc.1
    simp only [impB, Bool.and_eq_true] at hb
    obtain ⟨p0, p1⟩ := inB_true.1 hb.1.2
    exact ⟨(impV_bd p0 p1 a b _).1, impV_le p0 p1 a b _⟩
  · exact ⟨a, Int.le_refl _⟩
theorem impR_ok {f : Int} {n : Nat} {F : Nat → Int} (h : tableB f n F = true) (p y : Int) : tableB f n (impR f n F p y) = true := by
  obtain ⟨h0, h1, h2, h3, h4, tF, hl⟩ := tableB_true h
  simp only [tableB, Bool.and_eq_true, decide_eq_true_eq, beq_iff_eq]
  refine ⟨⟨⟨⟨inB_true.2 ⟨h0, h1⟩, inB_true.2 ⟨by omega, by omega⟩⟩, h4⟩, allB_iff.2 fun i hi => ?_⟩, ?_⟩
  · have h5 := impR_bd h p y hi
    have h6 := tF i hi
    exact inB_true.2 ⟨h5.1, by omega⟩
  · unfold impR
    rw [if_neg (fun hc => by omega), hl]
theorem death_at {f : Int} {n : Nat} {F : Nat → Int} (h : tableB f n F = true) {k : Nat} (hk : k < n) : deathI f n F (f + k) = F k := by
  unfold deathI
  rw [if_pos ⟨h, inB_true.2 ⟨by omega, by omega⟩⟩]
  congr 1
  omega
theorem death_out {f : Int} {n : Nat} {F : Nat → Int} {a : Int} (h : a < f ∨ f + n - 1 < a) : deathI f n F a = 1000000 := by
  unfold deathI
  rw [if_neg]
  rintro ⟨_, h2⟩
  have := inB_true.1 h2
  omega
end Go.Proofs.Ytjmibbjachgofaa
