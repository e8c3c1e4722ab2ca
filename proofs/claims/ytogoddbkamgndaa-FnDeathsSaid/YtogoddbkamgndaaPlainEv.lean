/- Plain words on events: the status at every month is that behind the events up to it. -/
import Derived.Test.YtogoddbkamgndaaStatusAt
namespace Go.Proofs.Ytogoddbkamgndaa

theorem ev_months {F : Nat → Nat → Int} {n i : Nat} (h : eventsB F n = true) (hi : i < n) : 0 ≤ F i 1 ∧ F i 1 ≤ 3599 := inB_true.1 (evB_true ((eventsB_true h).1 i hi)).2.1
theorem ev_step {F : Nat → Nat → Int} {n i : Nat} (h : eventsB F n = true) (hi : i < n) : stB (stN F i) (F i 0) = true := (evB_true ((eventsB_true h).1 i hi)).1
theorem ev_strict {F : Nat → Nat → Int} {n i j : Nat} (h : eventsB F n = true) (hij : i < j) (hj : j < n) : F i 1 < F j 1 := by
  have h1 := events_mono h (j - 1 - i) i (by omega)
  rw [show i + (j - 1 - i) = j - 1 by omega] at h1
  have h2 := (evB_true ((eventsB_true h).1 j hj)).2.2 (by omega)
  omega
theorem status_first {F : Nat → Nat → Int} {n : Nat} (h : eventsB F n = true) : statusI F n (-1) = 0 := by
  rw [← status_end h (Nat.zero_le _) (fun i hi => by omega) (fun hn => by have := ev_months h hn; omega)]
  rfl
theorem status_at {F : Nat → Nat → Int} {n i : Nat} (h : eventsB F n = true) (hi : i < n) : statusI F n (F i 1) = stN F (i + 1) :=
  (status_end h (by omega) (fun j hj => by
    rcases Nat.lt_or_ge j i with h1 | h1
    · have := ev_strict h h1 hi; omega
    · obtain rfl : j = i := by omega
      omega) (fun hn => ev_strict h (by omega) hn)).symm
theorem status_before {F : Nat → Nat → Int} {n i : Nat} (h : eventsB F n = true) (hi : i < n) : statusI F n (F i 1 - 1) = stN F i :=
  (status_end h (by omega) (fun j hj => by have := ev_strict h hj hi; omega) (fun hn => by omega)).symm
theorem status_last {F : Nat → Nat → Int} {n : Nat} {t : Int} (h : eventsB F n = true) (ht : ∀ i, i < n → F i 1 ≤ t) : statusI F n t = stN F n :=
  (status_end h (Nat.le_refl _) ht (fun hn => by omega)).symm
theorem stI_next {F : Nat → Nat → Int} (i : Nat) : stI (stN F i) (F i 0) = stN F (i + 1) := rfl
end Go.Proofs.Ytogoddbkamgndaa
