/- Plain words on moved stays: every month stays in one fund. -/
import Derived.Test.YtogoddbkamgndaaPlainStays
import Derived.Test.YtogoddbkamgndaaMoveI
import Derived.Test.YtogoddbkamgndaaMoney
namespace Go.Proofs.Ytogoddbkamgndaa

theorem atB_iff {F : Nat → Nat → Int} {t : Int} {i : Nat} : atB F t i = true ↔ F i 1 ≤ t ∧ t < F i 2 := by simp [atB]
theorem fund_is {F : Nat → Nat → Int} {n i : Nat} {t : Int} (h : staysB F n = true) (hi : i < n) (ha : atB F t i = true) : fundI F n t = F i 0 := by
  obtain ⟨hs, _⟩ := staysB_true h
  unfold fundI stayAtI
  rcases findI_cases (atB F t) n with ⟨e, hz⟩ | ⟨k, e, hk, hp, _⟩
  · rw [hz i hi] at ha; cases ha
  · rw [e, if_pos ⟨h, by omega⟩, Int.toNat_natCast]
    have h1 := atB_iff.1 ha
    have h2 := atB_iff.1 hp
    have : k = i := by
      rcases Nat.lt_trichotomy k i with a | a | a
      · have := stays_apart hs a hi; omega
      · exact a
      · have := stays_apart hs a hk; omega
    rw [this]
theorem fund_zero {F : Nat → Nat → Int} {n : Nat} {t : Int} (h : ∀ i, i < n → atB F t i = false) : fundI F n t = 0 := by
  unfold fundI stayAtI
  rcases findI_cases (atB F t) n with ⟨e, hz⟩ | ⟨k, e, hk, hp, _⟩
  · rw [e, if_neg (by omega)]
  · rw [h k hk] at hp; cases hp
theorem fund_nz {F : Nat → Nat → Int} {n i : Nat} (h : staysB F n = true) (hi : i < n) : ¬ F i 0 = 0 := by
  have := (staysB_true h).1 i hi
  unfold stayP at this
  omega
theorem moved_rows (F : Nat → Nat → Int) (p : Nat) (f t : Int) : (∀ i, i < p → ∀ j, moveF F p f t i j = F i j) ∧ (moveF F p f t p 0 = F p 0 ∧ moveF F p f t p 1 = F p 1 ∧ moveF F p f t p 2 = t) ∧
    (moveF F p f t (p + 1) 0 = f ∧ moveF F p f t (p + 1) 1 = t ∧ moveF F p f t (p + 1) 2 = F p 2) ∧ ∀ i, p < i → ∀ j, moveF F p f t (i + 1) j = F i j := by
  refine ⟨fun i hi j => ?_, ⟨?_, ?_, ?_⟩, ⟨?_, ?_, ?_⟩, fun i hi j => ?_⟩
  · unfold moveF insF
    rw [if_neg (by omega), if_pos (by omega)]
  · simp [moveF, insF]
  · simp [moveF, insF]
  · simp [moveF]
  · simp [moveF, insF, trip]
  · simp [moveF, insF, trip]
  · simp [moveF, insF, trip]
  · unfold moveF insF
    rw [if_neg (by omega), if_neg (by omega), if_neg (by omega), Nat.add_sub_cancel]
theorem moved_month {F : Nat → Nat → Int} {n p : Nat} {f t : Int} (h : staysB F n = true) (hm : staysB (moveF F p f t) (n + 1) = true) (hp : p < n) (ha : atB F t p = true) (k : Int) :
    ((fundI (moveF F p f t) (n + 1) k == 0) = (fundI F n k == 0)) ∧ (k < t → fundI (moveF F p f t) (n + 1) k = fundI F n k) := by
  obtain ⟨r1, ⟨a0, a1, a2⟩, ⟨b0, b1, b2⟩, r4⟩ := moved_rows F p f t
  have h1 := atB_iff.1 ha
  by_cases hc : ∃ i, i < n ∧ atB F k i = true
  · obtain ⟨i, hi, hk⟩ := hc
    have h2 := atB_iff.1 hk
    have e := fund_is h hi hk
    rcases Nat.lt_trichotomy i p with q | q | q
    · have e2 := fund_is hm (show i < n + 1 by omega) (t := k) (atB_iff.2 (by rw [r1 i q, r1 i q]; exact h2))
      rw [e2, e, r1 i q]
      exact ⟨rfl, fun _ => rfl⟩
    · subst q
      by_cases hlt : k < t
      · have e2 := fund_is hm (show i < n + 1 by omega) (t := k) (atB_iff.2 (by rw [a1, a2]; exact ⟨h2.1, hlt⟩))
        rw [e2, e, a0]
        exact ⟨rfl, fun _ => rfl⟩
      · have e2 := fund_is hm (show i + 1 < n + 1 by omega) (t := k) (atB_iff.2 (by rw [b1, b2]; exact ⟨by omega, h2.2⟩))
        have n1 := fund_nz hm (show i + 1 < n + 1 by omega)
        have n2 := fund_nz h hi
        rw [e2, e]
        refine ⟨?_, fun q => absurd q hlt⟩
        have c1 : (moveF F i f t (i + 1) 0 == 0) = false := by simpa using n1
        have c2 : (F i 0 == 0) = false := by simpa using n2
        rw [c1, c2]
    · have e2 := fund_is hm (show i + 1 < n + 1 by omega) (t := k) (atB_iff.2 (by rw [r4 i q, r4 i q]; exact h2))
      rw [e2, e, r4 i q]
      exact ⟨rfl, fun _ => rfl⟩
  · have z : ∀ i, i < n → atB F k i = false := fun i hi => by
      rw [Bool.eq_false_iff]
      exact fun h' => hc ⟨i, hi, h'⟩
    have e := fund_zero z
    have e2 : fundI (moveF F p f t) (n + 1) k = 0 := fund_zero fun i hi => by
      rw [Bool.eq_false_iff]
      intro h'
      have h2 := atB_iff.1 h'
      rcases Nat.lt_trichotomy i p with q | q | q
      · rw [r1 i q, r1 i q] at h2
        exact hc ⟨i, by omega, atB_iff.2 h2⟩
      · subst q
        rw [a1, a2] at h2
        exact hc ⟨i, hp, atB_iff.2 (by omega)⟩
      · by_cases q1 : i = p + 1
        · subst q1
          rw [b1, b2] at h2
          exact hc ⟨p, hp, atB_iff.2 (by omega)⟩
        · obtain ⟨j, rfl⟩ : ∃ j, i = j + 1 := ⟨i - 1, by omega⟩
          rw [r4 j (by omega), r4 j (by omega)] at h2
          exact hc ⟨j, by omega, atB_iff.2 h2⟩
    rw [e, e2]
    exact ⟨rfl, fun _ => rfl⟩
/-- What holds of a list of stays and the one behind the move. -/
theorem moved {F : Nat → Nat → Int} {n : Nat} {f t : Int} (h : staysB F n = true) :
    (∀ k, ((fundI (moveG F n f t) (moveN F n f t) k == 0) = (fundI F n k == 0)) ∧ (k < t → fundI (moveG F n f t) (moveN F n f t) k = fundI F n k) ∧ (moveB F n f t = false → fundI (moveG F n f t) (moveN F n f t) k = fundI F n k)) ∧
    (moveB F n f t = true → fundI (moveG F n f t) (moveN F n f t) t = f ∧ ¬ fundI F n t = f) ∧ staysB (moveG F n f t) (moveN F n f t) = true := by
  rcases Bool.eq_false_or_eq_true (moveB F n f t) with hb | hb
  · have hg : moveG F n f t = moveF F (moveP F n t) f t := by simp [moveG, hb]
    have hn : moveN F n f t = n + 1 := by simp [moveN, hb]
    rw [hg, hn, hb]
    have hb' := hb
    simp only [moveB, moveA, Bool.and_eq_true] at hb'
    obtain ⟨⟨⟨⟨⟨_, q2⟩, q3⟩, q4⟩, q5⟩, q6⟩ := hb'
    rcases findI_cases (atB F t) n with ⟨e, _⟩ | ⟨p, e, hp, ha, _⟩
    · have : stayAtI F n t = -1 := e
      rw [this] at q2
      simp at q2
    · have hpe : moveP F n t = p := by unfold moveP stayAtI; rw [e]; rfl
      rw [hpe] at q4 q5 q6 ⊢
      have hr := moved_month h q6 hp ha
      have h1 := atB_iff.1 ha
      obtain ⟨_, _, ⟨b0, b1, b2⟩, _⟩ := moved_rows F p f t
      refine ⟨fun k => ⟨(hr k).1, (hr k).2, fun hf => by cases hf⟩, fun _ => ⟨?_, ?_⟩, q6⟩
      · rw [fund_is q6 (show p + 1 < n + 1 by omega) (atB_iff.2 (by rw [b1, b2]; omega)), b0]
      · rw [fund_is h hp ha]
        simpa using q5
  · have hg : moveG F n f t = F := by simp [moveG, hb]
    have hn : moveN F n f t = n := by simp [moveN, hb]
    rw [hg, hn, hb]
    exact ⟨fun k => ⟨rfl, fun _ => rfl, fun _ => rfl⟩, fun hf => (by cases hf), h⟩
end Go.Proofs.Ytogoddbkamgndaa
