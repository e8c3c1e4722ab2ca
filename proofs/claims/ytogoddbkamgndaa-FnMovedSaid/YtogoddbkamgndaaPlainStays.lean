/- Plain words on stays: the months of all funds are the months of all stays. -/
import Derived.Test.YtogoddbkamgndaaMonths
import Derived.Test.YtogoddbkamgndaaFund
namespace Go.Proofs.Ytogoddbkamgndaa

theorem sumI_congr {f g : Nat → Int} : ∀ {n : Nat}, (∀ i, i < n → f i = g i) → sumI f n = sumI g n
  | 0, _ => rfl
  | n + 1, h => by simp only [sumI]; rw [sumI_congr (n := n) (fun i hi => h i (by omega)), h n (by omega)]
theorem sumI_add (f g : Nat → Int) : ∀ n, sumI (fun i => f i + g i) n = sumI f n + sumI g n
  | 0 => rfl
  | n + 1 => by simp only [sumI]; rw [sumI_add f g n]; omega
theorem sumI_zero : ∀ n, sumI (fun _ => 0) n = 0
  | 0 => rfl
  | n + 1 => by simp only [sumI]; rw [sumI_zero n]; rfl
/-- The numbers from a to b - 1 among the first n. -/
theorem sumI_span (a b : Int) (h0 : 0 ≤ a) (h1 : a ≤ b) : ∀ n : Nat, sumI (fun t => if a ≤ t ∧ (t : Int) < b then 1 else 0) n = max 0 (min b n - a)
  | 0 => by simp only [sumI]; omega
  | n + 1 => by
    simp only [sumI]
    rw [sumI_span a b h0 h1 n]
    split <;> omega
/-- One number among the first n. -/
theorem sumI_one (x d : Int) (n : Nat) (h0 : 1 ≤ x) (h1 : x ≤ n) : sumI (fun f => if x = f + 1 then d else 0) n = d := by
  have h : ∀ n : Nat, sumI (fun f => if x = f + 1 then d else 0) n = if x ≤ n then d else 0 := by
    intro n
    induction n with
    | zero => simp only [sumI]; rw [if_neg (by omega)]
    | succ n ih =>
      simp only [sumI]
      rw [ih]
      split <;> split <;> split <;> omega
  rw [h, if_pos h1]
/-- Is month t in one of the first n stays? -/
def covB (F : Nat → Nat → Int) (t : Int) : Nat → Bool
  | 0 => false
  | n + 1 => covB F t n || atB F t n
theorem covB_iff {F : Nat → Nat → Int} {t : Int} : ∀ {n : Nat}, covB F t n = true ↔ ∃ i, i < n ∧ atB F t i = true
  | 0 => by simp [covB]
  | n + 1 => by
    simp only [covB, Bool.or_eq_true, covB_iff (n := n)]
    constructor
    · rintro (⟨i, hi, h⟩ | h)
      · exact ⟨i, by omega, h⟩
      · exact ⟨n, by omega, h⟩
    · rintro ⟨i, hi, h⟩
      rcases Nat.lt_or_ge i n with h1 | h1
      · exact .inl ⟨i, h1, h⟩
      · obtain rfl : i = n := by omega
        exact .inr h
theorem stays_mono {F : Nat → Nat → Int} {n : Nat} (h : ∀ i, i < n → stayP F i) : ∀ d i, i + d < n → F i 2 ≤ F (i + d) 2
  | 0, i, _ => by simp
  | d + 1, i, hi => by
    have h1 := stays_mono h d i (by omega)
    have h2 := h (i + d + 1) (by omega)
    unfold stayP at h2
    rw [show i + (d + 1) = i + d + 1 by omega]
    have h3 := h2.2.2.2.2.2 (by omega)
    simp only [Nat.add_sub_cancel] at h3
    omega
/-- A stay begins when all earlier ones have ended. -/
theorem stays_apart {F : Nat → Nat → Int} {n i j : Nat} (h : ∀ i, i < n → stayP F i) (hij : i < j) (hj : j < n) : F i 2 ≤ F j 1 := by
  have h1 := stays_mono h (j - 1 - i) i (by omega)
  rw [show i + (j - 1 - i) = j - 1 by omega] at h1
  have h2 := h j hj
  unfold stayP at h2
  have h3 := h2.2.2.2.2.2 (by omega)
  omega
theorem cov_sum {F : Nat → Nat → Int} {n : Nat} (T : Nat) (h : ∀ i, i < n → stayP F i) (hT : ∀ i, i < n → F i 2 ≤ T) : ∀ m, m ≤ n → sumI (fun t => if covB F t m = true then 1 else 0) T = sumI (fun i => F i 2 - F i 1) m
  | 0, _ => by simp only [covB, sumI]; exact sumI_zero T
  | m + 1, hm => by
    simp only [sumI]
    rw [← cov_sum T h hT m (by omega)]
    have hp := h m (by omega)
    unfold stayP at hp
    have hs := sumI_span (F m 1) (F m 2) (by omega) (by omega) T
    have hb := hT m (by omega)
    have e : F m 2 - F m 1 = max 0 (min (F m 2) T - F m 1) := by omega
    rw [e, ← hs, ← sumI_add]
    refine sumI_congr fun t _ => ?_
    have e2 : atB F t m = decide (F m 1 ≤ t ∧ (t : Int) < F m 2) := by simp [atB]
    simp only [covB, e2]
    by_cases hq : F m 1 ≤ t ∧ (t : Int) < F m 2
    · have hc : covB F t m = false := by
        rw [Bool.eq_false_iff]
        intro hc
        obtain ⟨i, hi, ha⟩ := covB_iff.1 hc
        have := stays_apart h hi (show m < n by omega)
        simp only [atB, Bool.and_eq_true, decide_eq_true_eq] at ha
        omega
      simp [hc, hq]
    · simp [hq]
theorem fund_pos {F : Nat → Nat → Int} {n : Nat} (h : staysB F n = true) (t : Int) : decide (0 < fundI F n t) = covB F t n := by
  obtain ⟨hs, _⟩ := staysB_true h
  rw [Bool.eq_iff_iff, decide_eq_true_eq, covB_iff]
  unfold fundI stayAtI
  rcases findI_cases (atB F t) n with ⟨e, hz⟩ | ⟨k, e, hk, hp, _⟩
  · rw [e, if_neg (by omega)]
    constructor
    · intro h; omega
    · rintro ⟨i, hi, ha⟩
      rw [hz i hi] at ha
      cases ha
  · rw [e, if_pos ⟨h, by omega⟩]
    have := hs k hk
    unfold stayP at this
    simp only [Int.toNat_natCast]
    exact ⟨fun _ => ⟨k, hk, hp⟩, fun _ => by omega⟩
/-- The months in all nine funds are the months in which there is a fund. -/
theorem fund_months {F : Nat → Nat → Int} {n : Nat} (h : staysB F n = true) (T : Nat) (hT : ∀ i, i < n → F i 2 ≤ T) : sumI (fun f => monthsI F n (1 + f)) 9 = sumI (fun t => if 0 < fundI F n t then 1 else 0) T := by
  obtain ⟨hs, _⟩ := staysB_true h
  have h1 : sumI (fun t => if 0 < fundI F n t then 1 else 0) T = sumI (fun i => F i 2 - F i 1) n := by
    rw [← cov_sum T hs hT n (Nat.le_refl _)]
    refine sumI_congr fun t _ => ?_
    rw [← fund_pos h t]
    simp
  rw [h1]
  have h2 : ∀ m, m ≤ n → sumI (fun f : Nat => sumI (monthsF F (1 + f)) m) 9 = sumI (fun i => F i 2 - F i 1) m := by
    intro m
    induction m with
    | zero => intro _; simp only [sumI]; rfl
    | succ m ih =>
      intro hm
      simp only [sumI] at ih ⊢
      rw [← ih (by omega)]
      have hp := hs m (by omega)
      unfold stayP at hp
      have := sumI_one (F m 0) (F m 2 - F m 1) 9 (by omega) (by omega)
      simp only [sumI, monthsF] at this ⊢
      simp only [Int.add_comm 1] at *
      omega
  rw [← h2 n (Nat.le_refl _)]
  refine sumI_congr fun f _ => ?_
  simp [monthsI, h]
end Go.Proofs.Ytogoddbkamgndaa
