/- Plain words on drawn heirs: they are right, in no circle, and an heir is entitled as long as the one whom he comes after is not. -/
import Derived.Test.YtoebibgkpmppdaaEnt
import Derived.Test.YtoebibgkpmppdaaDrawH
namespace Go.Proofs.Ytoebibgkpmppdaa

theorem drawn_at {F : Nat → Nat → Int} {n : Nat} (h : ∀ i, i < n → drawnH F i) {k : Nat} (hk : k < n) : hAt F n (k + 1) = k := by
  rcases findI_cases (fun i => F i 0 == ((k : Int) + 1)) n with ⟨_, e⟩ | ⟨j, e, hj, h1, h2⟩
  · have := e k hk
    rw [(h k hk).1] at this
    simp at this
  · have h3 := eq_of_beq h1
    rw [(h j hj).1] at h3
    obtain rfl : j = k := by omega
    exact e
theorem drawn_next {F : Nat → Nat → Int} {n : Nat} (h : ∀ i, i < n → drawnH F i) {k : Nat} (hk : k < n) (hz : ¬ F k 3 = 0) : ∃ j, j < k ∧ F k 3 = (j : Int) + 1 ∧ hAt F n (F k 3) = (j : Nat) := by
  obtain ⟨_, _, _, _, _, a, b⟩ := h k hk
  obtain ⟨m, hm⟩ := Int.eq_ofNat_of_zero_le a
  refine ⟨m - 1, by omega, by omega, ?_⟩
  have e : F k 3 = ((m - 1 : Nat) : Int) + 1 := by omega
  rw [e]
  exact drawn_at h (by omega)
theorem drawn_cyc {F : Nat → Nat → Int} {n : Nat} (h : ∀ i, i < n → drawnH F i) {i : Nat} : ∀ (f k : Nat) (out : List Int), k < n → k ≤ i → cyc F n i f k out = none
  | 0, _, _, _, _ => rfl
  | f + 1, k, out, hk, hi => by
    rw [cyc_succ]
    by_cases hz : F k 3 = 0
    · rw [show nxt F n k = -1 by unfold nxt; rw [if_pos hz]]
      simp [chk]
    · obtain ⟨j, hj, _, e⟩ := drawn_next h hk hz
      rw [show nxt F n k = (j : Int) by unfold nxt; rw [if_neg hz, e]]
      unfold chk
      rw [if_neg (by omega), if_neg (by omega), Int.toNat_natCast]
      exact drawn_cyc h f j _ (by omega) (by omega)
theorem drawn_ok {F : Nat → Nat → Int} {n : Nat} (h : ∀ i, i < n → drawnH F i) (hn : n ≤ 5) : heirsB F n = true ∧ cycle F n = [] := by
  have hd : distB F n = true := by
    simp only [distB, Bool.and_eq_true, decide_eq_true_eq]
    refine ⟨allB_iff.2 fun i hi => ?_, by omega⟩
    rw [(h i hi).1]
    exact beq_iff_eq.2 (drawn_at h hi)
  have hc : cycle F n = [] := by
    unfold cycle
    rw [if_pos hd]
    exact cycR_none fun j hj => drawn_cyc h n j _ hj (Nat.le_refl _)
  refine ⟨?_, hc⟩
  simp only [heirsB, Bool.and_eq_true]
  refine ⟨allB_iff.2 fun i hi => ?_, hd, by rw [hc]; rfl⟩
  obtain ⟨a, b, c, d, e, f, g⟩ := h i hi
  have q1 : inB (F i 0) 1 100 = true := inB_true.2 ⟨by omega, by omega⟩
  have q2 : inB (F i 1) 1 100 = true := inB_true.2 ⟨by omega, by omega⟩
  have q3 : inB (F i 2) 0 3600 = true := inB_true.2 ⟨by omega, by omega⟩
  unfold heirB
  rw [q1, q2, q3]
  by_cases hz : F i 3 = 0
  · simp [hz]
  · obtain ⟨j, hj, e1, e2⟩ := drawn_next h hi hz
    rw [e2]
    have : (F i 3 == F i 0) = false := by simp; omega
    rw [this]
    simp
theorem drawn_fuel {F : Nat → Nat → Int} {n : Nat} {t : Int} (h : ∀ i, i < n → drawnH F i) : ∀ (f k : Nat), k < n → k < f → entB F n t f k = entB F n t (f + 1) k
  | 0, _, _, hf => by omega
  | f + 1, k, hk, hf => by
    show (!decide (t < 0) && !decide (F k 2 ≤ t) && (F k 3 == 0 || !entB F n t f (hAt F n (F k 3)).toNat)) = (!decide (t < 0) && !decide (F k 2 ≤ t) && (F k 3 == 0 || !entB F n t (f + 1) (hAt F n (F k 3)).toNat))
    by_cases hz : F k 3 = 0
    · simp [hz]
    · obtain ⟨j, hj, _, e⟩ := drawn_next h hk hz
      rw [e, Int.toNat_natCast, drawn_fuel h f j (by omega) (by omega)]
theorem drawn_ent {F : Nat → Nat → Int} {n : Nat} {t : Int} (h : ∀ i, i < n → drawnH F i) (hn : n ≤ 5) {k : Nat} (hk : k < n) : entI F n (F k 0) t = entB F n t (n + 1) k := by
  unfold entI
  rw [(drawn_ok h hn).1, (h k hk).1, drawn_at h hk]
  simp
theorem chains {F : Nat → Nat → Int} {n : Nat} {t : Int} (h : ∀ i, i < n → drawnH F i) (hn : n ≤ 5) (ht : 0 ≤ t) {k : Nat} (hk : k < n) : entI F n (F k 0) t = (decide (t < F k 2) && (F k 3 == 0 || !entI F n (F k 3) t)) := by
  rw [drawn_ent h hn hk]
  show (!decide (t < 0) && !decide (F k 2 ≤ t) && (F k 3 == 0 || !entB F n t n (hAt F n (F k 3)).toNat)) = _
  have e1 : decide (t < 0) = false := by simp; omega
  have e2 : (!decide (F k 2 ≤ t)) = decide (t < F k 2) := by
    by_cases hl : t < F k 2
    · simp [hl]
    · simp [show F k 2 ≤ t by omega]
  rw [e1, e2]
  by_cases hz : F k 3 = 0
  · simp [hz]
  · obtain ⟨j, hj, e3, e4⟩ := drawn_next h hk hz
    have e5 : F k 3 = F j 0 := by rw [e3, (h j (by omega)).1]
    rw [e4, Int.toNat_natCast, drawn_fuel h n j (by omega) (by omega), ← drawn_ent h hn (show j < n by omega), ← e5]
    simp
def ring : Nat → Nat → Int := fun i => if i = 0 then quad 5 10 9 7 else if i = 1 then quad 6 10 9 0 else quad 7 10 9 5
theorem ring_cycle : cycle ring 3 = [5, 7] := by decide +kernel
theorem ring_bad : heirsB ring 3 = false := by decide +kernel
theorem ring_recs {w : World} {g : Nat} {t : TypeId} (h : Box w g t #[.int .i64 5, .int .i64 10, .int .i64 9, .int .i64 7, .int .i64 6, .int .i64 10, .int .i64 9, .int .i64 0, .int .i64 7, .int .i64 10, .int .i64 9, .int .i64 5]) : Recs w 4 (some ⟨g, 0, none⟩) 3 ring := by
  refine .inr ⟨g, 0, rfl, h.lt, fun i hi j hj => ?_⟩
  rw [h.cell]
  have a : i = 0 ∨ i = 1 ∨ i = 2 := by omega
  have b : j = 0 ∨ j = 1 ∨ j = 2 ∨ j = 3 := by omega
  rcases a with rfl | rfl | rfl <;> rcases b with rfl | rfl | rfl | rfl <;> rfl
end Go.Proofs.Ytoebibgkpmppdaa
