/- Plain words on deaths: after a death there is no further event. -/
import Derived.Test.YtogoddbkamgndaaPlainEv
import Derived.Test.YtogoddbkamgndaaAddS
import Derived.Test.YtogoddbkamgndaaBack
namespace Go.Proofs.Ytogoddbkamgndaa

theorem stN_congr {F H : Nat → Nat → Int} : ∀ {m : Nat}, (∀ i, i < m → F i 0 = H i 0) → stN F m = stN H m
  | 0, _ => rfl
  | m + 1, h => by
    simp only [stN]
    rw [stN_congr (fun i hi => h i (by omega)), h m (by omega)]
theorem posE_all {F : Nat → Nat → Int} {t : Int} {n : Nat} (h : ∀ i, i < n → F i 1 ≤ t) : posE F t n = n := by
  have h1 := posE_le F t n
  rcases Nat.lt_or_ge (posE F t n) n with h2 | h2
  · have := (posE_spec F t n).2 h2
    have := h _ h2
    omega
  · omega
theorem ins_last {F : Nat → Nat → Int} {n : Nat} {k t : Int} : stN (insF F n (pair k t)) n = stN F n ∧ stN (insF F n (pair k t)) (n + 1) = stI (stN F n) k := by
  have h1 : stN (insF F n (pair k t)) n = stN F n := stN_congr fun i hi => insF_lt hi 0
  refine ⟨h1, ?_⟩
  simp only [stN]
  rw [h1, insF_at]
  rfl
theorem add_last {F : Nat → Nat → Int} {n : Nat} {k t : Int} (h : eventsB F n = true) (hn : n ≤ 8) (ht : ∀ i, i < n → F i 1 < t) (t0 : 0 ≤ t) (t1 : t ≤ 3599) : addB F n k t = stB (stN F n) k := by
  have hp : posE F t n = n := posE_all fun i hi => by have := ht i hi; omega
  unfold addB
  rw [hp, h, Bool.true_and]
  have hev : ∀ i, i < n → evB (insF F n (pair k t)) i = true := fun i hi => by
    have := (eventsB_true h).1 i hi
    unfold evB at *
    rw [stN_congr (H := F) (fun j hj => insF_lt (show j < n by omega) 0), insF_lt hi, insF_lt hi, insF_lt (show i - 1 < n by omega)]
    exact this
  have hlast : evB (insF F n (pair k t)) n = stB (stN F n) k := by
    unfold evB
    rw [ins_last.1, insF_at, insF_at]
    have hm : inB (pair k t 1) 0 3599 = true := inB_true.2 (by simp [pair]; omega)
    rw [hm]
    have hk : pair k t 0 = k := rfl
    rw [hk]
    rcases Nat.eq_zero_or_pos n with h0 | h0
    · simp [h0]
    · rw [insF_lt (show n - 1 < n by omega)]
      have : decide (F (n - 1) 1 < pair k t 1) = true := decide_eq_true (by simp [pair]; exact ht _ (by omega))
      rw [this]
      simp
  unfold eventsB
  rw [show allB (evB (insF F n (pair k t))) (n + 1) = (allB (evB (insF F n (pair k t))) n && evB (insF F n (pair k t)) n) from rfl, allB_iff.2 hev, hlast]
  simp
  omega
theorem dead_end (k : Int) : stB 4 k = false := by
  have h : inB 4 1 3 = false := by decide
  simp [stB, h]
theorem deaths {F : Nat → Nat → Int} {n : Nat} (h : eventsB F n = true) : monthI F n 4 = -1 ∨ stN F n = 4 := by
  unfold monthI
  rw [if_pos h]
  by_cases hd : ∃ q, q < n ∧ F q 0 = 4
  · obtain ⟨q, hq, hk⟩ := hd
    right
    have h1 : stN F (q + 1) = 4 := by
      have := ev_step h hq
      rw [hk] at this
      simp only [stN]
      rw [hk]
      unfold stI
      rw [if_pos this]
    rcases Nat.lt_or_ge (q + 1) n with h2 | h2
    · have := ev_step h h2
      rw [h1, dead_end] at this
      cases this
    · rw [show n = q + 1 by omega]
      exact h1
  · left
    exact monthK_none fun j hj e => hd ⟨j, hj, e⟩
end Go.Proofs.Ytogoddbkamgndaa
