/- Plain words on survivors: fewer every year, more where the table is improved, none at the end. -/
import Derived.Test.YtjmibbjachgofaaPlainT
import Derived.Test.YtjmibbjachgofaaLife
namespace Go.Proofs.Ytjmibbjachgofaa

theorem surv_down {f : Int} {n : Nat} {F : Nat → Int} {age start : Int} (s0 : 0 ≤ start) (s1 : start ≤ 1000000000) (i : Nat) : survP f n F age start (i + 1) ≤ survP f n F age start i := by
  obtain ⟨a, b⟩ := survP_bd (f := f) (n := n) (F := F) (age := age) s0 s1 i
  obtain ⟨c, d⟩ := deathI_bd f n F (age + i)
  exact (step_bd a b c d).2.2.2
theorem surv_downs {f : Int} {n : Nat} {F : Nat → Int} {age start : Int} (s0 : 0 ≤ start) (s1 : start ≤ 1000000000) (i : Nat) : ∀ d, survP f n F age start (i + d) ≤ survP f n F age start i
  | 0 => Int.le_refl _
  | d + 1 => Int.le_trans (surv_down s0 s1 (i + d)) (surv_downs s0 s1 i d)
theorem step_mono {s s' d d' : Int} (hs : 0 ≤ s) (hss : s ≤ s') (hd : d' ≤ d) (h1 : d ≤ 1000000) : s - (s * d + 500000) / 1000000 ≤ s' - (s' * d' + 500000) / 1000000 := by
  have a : s' * d' ≤ s' * d := Int.mul_le_mul_of_nonneg_left hd (by omega)
  have b : (s' - s) * d ≤ (s' - s) * 1000000 := Int.mul_le_mul_of_nonneg_left h1 (by omega)
  have c : (s' - s) * d = s' * d - s * d := Int.sub_mul s' s d
  omega
theorem death_imp {f : Int} {n : Nat} {F : Nat → Int} (h : tableB f n F = true) (p y a : Int) : deathI f n (impR f n F p y) a ≤ deathI f n F a := by
  unfold deathI
  by_cases hc : inB a f (f + n - 1) = true
  · rw [if_pos ⟨impR_ok h p y, hc⟩, if_pos ⟨h, hc⟩]
    have h1 := inB_true.1 hc
    exact (impR_bd h p y (by omega)).2
  · rw [if_neg (fun k => hc k.2), if_neg (fun k => hc k.2)]
    exact Int.le_refl _
theorem surv_imp {f : Int} {n : Nat} {F : Nat → Int} (h : tableB f n F = true) (p y age : Int) {start : Int} (s0 : 0 ≤ start) (s1 : start ≤ 1000000000) : ∀ i, survP f n F age start i ≤ survP f n (impR f n F p y) age start i
  | 0 => Int.le_refl _
  | i + 1 => by
    have a := surv_imp h p y age s0 s1 i
    have b := survP_bd (f := f) (n := n) (F := F) (age := age) s0 s1 i
    have d := deathI_bd f n F (age + i)
    exact step_mono b.1 a (death_imp h p y _) d.2
theorem surv_gone {f : Int} {n : Nat} {F : Nat → Int} {age start : Int} {i : Nat} (h : deathI f n F (age + i) = 1000000) : survP f n F age start (i + 1) = 0 := by
  simp only [survP, h]
  omega
theorem surv_dead {f : Int} {n : Nat} {F : Nat → Int} {age : Int} (h : tableB f n F = true) (h1 : f ≤ age) (hn : n ≤ 50) : survP f n F age 1000000 60 = 0 := by
  have key : ∃ i : Nat, i ≤ 50 ∧ deathI f n F (age + i) = 1000000 := by
    obtain ⟨_, _, n1, _, _, _, hl⟩ := tableB_true h
    by_cases hc : age ≤ f + n - 1
    · refine ⟨(f + n - 1 - age).toNat, by omega, ?_⟩
      have e : age + ((f + n - 1 - age).toNat : Int) = f + (n - 1 : Nat) := by omega
      rw [e, death_at h (by omega), hl]
    · exact ⟨0, by omega, death_out (.inr (by omega))⟩
  obtain ⟨i, hi, hd⟩ := key
  have a := surv_gone (start := 1000000) hd
  have b := surv_downs (f := f) (n := n) (F := F) (age := age) (start := 1000000) (by omega) (by omega) (i + 1) (60 - (i + 1))
  have e : i + 1 + (60 - (i + 1)) = 60 := by omega
  rw [e, a] at b
  have c := survP_bd (f := f) (n := n) (F := F) (age := age) (start := 1000000) (by omega) (by omega) 60
  omega
theorem surv_61 {f : Int} {n : Nat} {F : Nat → Int} {age : Int} (h : tableB f n F = true) (h0 : 0 ≤ age) (h1 : age ≤ 120) : survN f n F age 60 1000000 = 61 := by
  have a : inB age 0 120 = true := inB_true.2 ⟨h0, h1⟩
  have b : inB 60 0 120 = true := by decide
  have c : inB 1000000 0 1000000000 = true := by decide
  simp [survN, survB, h, a, b, c]
theorem life_pos (f : Int) (n : Nat) (F : Nat → Int) (age : Int) : 0 ≤ lifeI f n F age := by
  have := (sum_bd f n F age (survN f n F age 120 1000000 - 1)).1
  unfold lifeI
  omega
end Go.Proofs.Ytjmibbjachgofaa
