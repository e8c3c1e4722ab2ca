/- Plain words on heirs: who has an id, who comes after whom, circles. -/
import Derived.Test.YtoebibgkpmppdaaFind
namespace Go.Proofs.Ytoebibgkpmppdaa

def hAt (F : Nat → Nat → Int) (n : Nat) (id : Int) : Int := findI (fun i => F i 0 == id) n
def distB (F : Nat → Nat → Int) (n : Nat) : Bool := allB (fun i => hAt F n (F i 0) == (i : Int)) n && decide (n ≤ 10)
theorem hAt_cases (F : Nat → Nat → Int) (n : Nat) (id : Int) : hAt F n id = -1 ∨ ∃ k : Nat, hAt F n id = k ∧ k < n := by
  rcases findI_cases (fun i => F i 0 == id) n with ⟨e, _⟩ | ⟨k, e, hk, _⟩
  · exact .inl e
  · exact .inr ⟨k, e, hk⟩
theorem distB_true {F : Nat → Nat → Int} {n : Nat} (h : distB F n = true) : (∀ i, i < n → hAt F n (F i 0) = i) ∧ n ≤ 10 := by
  simp only [distB, Bool.and_eq_true, decide_eq_true_eq] at h
  exact ⟨fun i hi => eq_of_beq (allB_iff.1 h.1 i hi), h.2⟩
theorem dist_inj {F : Nat → Nat → Int} {n : Nat} (h : distB F n = true) {i j : Nat} (hi : i < n) (hj : j < n) (e : F i 0 = F j 0) : i = j := by
  have h1 := (distB_true h).1 i hi
  have h2 := (distB_true h).1 j hj
  rw [e, h2] at h1
  omega
/-- The heir whom heir k comes after; -1 where there is none. -/
def nxt (F : Nat → Nat → Int) (n : Nat) (k : Nat) : Int := if F k 3 = 0 then -1 else hAt F n (F k 3)
theorem nxt_cases (F : Nat → Nat → Int) (n k : Nat) : nxt F n k = -1 ∨ ∃ j : Nat, nxt F n k = j ∧ j < n := by
  unfold nxt
  split
  · exact .inl rfl
  · exact hAt_cases _ _ _
/-- Walk on from heir k for so many steps: back at heir i, or not. -/
def cyc (F : Nat → Nat → Int) (n i : Nat) : Nat → Nat → List Int → Option (List Int)
  | 0, _, _ => none
  | f + 1, k, out => if nxt F n k < 0 then none else if nxt F n k = i then some out else cyc F n i f (nxt F n k).toNat (out ++ [F (nxt F n k).toNat 0])
/-- The same, seen from behind the step. -/
def chk (F : Nat → Nat → Int) (n i f : Nat) (x : Int) (out : List Int) : Option (List Int) := if x < 0 then none else if x = i then some out else cyc F n i f x.toNat (out ++ [F x.toNat 0])
theorem cyc_succ (F : Nat → Nat → Int) (n i f k : Nat) (out : List Int) : cyc F n i (f + 1) k out = chk F n i f (nxt F n k) out := rfl
def cyc1 (F : Nat → Nat → Int) (n i : Nat) : Option (List Int) := cyc F n i n i [F i 0]
def cycR (F : Nat → Nat → Int) (n : Nat) : List Int := match (List.range n).find? (fun i => (cyc1 F n i).isSome) with | some i => (cyc1 F n i).getD [] | none => []
def cycle (F : Nat → Nat → Int) (n : Nat) : List Int := if distB F n = true then cycR F n else []
theorem cycR_hit {F : Nat → Nat → Int} {n m : Nat} {L : List Int} (h : ∀ j, j < m → cyc1 F n j = none) (hm : m < n) (e : cyc1 F n m = some L) : cycR F n = L := by
  have : (List.range n).find? (fun i => (cyc1 F n i).isSome) = some m := by
    rw [List.find?_range_eq_some]
    exact ⟨by rw [e]; rfl, List.mem_range.2 hm, fun j hj => by rw [h j hj]; rfl⟩
  simp [cycR, this, e]
theorem cycR_none {F : Nat → Nat → Int} {n : Nat} (h : ∀ j, j < n → cyc1 F n j = none) : cycR F n = [] := by
  have : (List.range n).find? (fun i => (cyc1 F n i).isSome) = none := by
    rw [List.find?_eq_none]
    intro x hx
    rw [h x (List.mem_range.1 hx)]
    simp
  simp [cycR, this]
theorem cyc_len {F : Nat → Nat → Int} {n i : Nat} : ∀ {f k : Nat} {out L : List Int}, cyc F n i f k out = some L → out.length ≤ L.length ∧ L.length ≤ out.length + f
  | 0, _, _, _, h => by cases h
  | f + 1, k, out, L, h => by
    simp only [cyc] at h
    split at h
    · cases h
    · split at h
      · cases h; omega
      · have := cyc_len h
        simp at this
        omega
theorem cycR_cases (F : Nat → Nat → Int) (n : Nat) : (cycR F n = [] ∧ ∀ j, j < n → cyc1 F n j = none) ∨ ∃ m L, m < n ∧ cyc1 F n m = some L ∧ cycR F n = L ∧ 1 ≤ L.length ∧ L.length ≤ n + 1 := by
  rcases h : (List.range n).find? (fun i => (cyc1 F n i).isSome) with _ | m
  · refine .inl ⟨by simp [cycR, h], fun j hj => ?_⟩
    have := List.find?_eq_none.1 h j (List.mem_range.2 hj)
    simpa using this
  · obtain ⟨h1, h2, _⟩ := List.find?_range_eq_some.1 h
    obtain ⟨L, hL⟩ := Option.isSome_iff_exists.1 h1
    have := cyc_len hL
    simp at this
    exact .inr ⟨m, L, List.mem_range.1 h2, hL, by simp [cycR, h, hL], by omega, by omega⟩
theorem cycle_le (F : Nat → Nat → Int) (n : Nat) : (cycle F n).length ≤ 11 := by
  unfold cycle
  split
  · rename_i h
    have := (distB_true h).2
    rcases cycR_cases F n with ⟨e, _⟩ | ⟨m, L, _, _, e, _, h2⟩
    · rw [e]; simp
    · rw [e]; omega
  · simp

/-- More numbers than places: two lie on one place. -/
theorem pigeon : ∀ (n : Nat) (f : Nat → Nat), (∀ j, j ≤ n → f j < n) → ∃ s t, s < t ∧ t ≤ n ∧ f s = f t
  | 0, f, h => absurd (h 0 (Nat.le_refl _)) (Nat.not_lt_zero _)
  | n + 1, f, h => by
    by_cases hx : ∃ s, s ≤ n ∧ f s = f (n + 1)
    · obtain ⟨s, hs, e⟩ := hx
      exact ⟨s, n + 1, by omega, Nat.le_refl _, e⟩
    · obtain ⟨s, t, hst, htn, e⟩ := pigeon n (fun j => if f j = n then f (n + 1) else f j) (fun j hj => by
        have h1 := h j (by omega)
        have h2 := h (n + 1) (Nat.le_refl _)
        have h3 : f j ≠ f (n + 1) := fun e => hx ⟨j, hj, e⟩
        show (if f j = n then f (n + 1) else f j) < n
        split <;> omega)
      refine ⟨s, t, hst, by omega, ?_⟩
      have h3 : f s ≠ f (n + 1) := fun e => hx ⟨s, by omega, e⟩
      have h4 : f t ≠ f (n + 1) := fun e => hx ⟨t, htn, e⟩
      split at e <;> split at e
      · omega
      · exact absurd e.symm h4
      · exact absurd e h3
      · exact e
def stepI (F : Nat → Nat → Int) (n : Nat) (x : Int) : Int := if x < 0 then -1 else nxt F n x.toNat
def itI (F : Nat → Nat → Int) (n : Nat) : Nat → Int → Int
  | 0, x => x
  | t + 1, x => itI F n t (stepI F n x)
theorem itI_add (F : Nat → Nat → Int) (n : Nat) : ∀ s d x, itI F n (s + d) x = itI F n d (itI F n s x)
  | 0, d, x => by rw [Nat.zero_add]; rfl
  | s + 1, d, x => by
    have : s + 1 + d = (s + d) + 1 := by omega
    rw [this]
    exact itI_add F n s d (stepI F n x)
theorem stepI_nat (F : Nat → Nat → Int) (n k : Nat) : stepI F n k = nxt F n k := by
  unfold stepI
  rw [if_neg (by omega), Int.toNat_natCast]
theorem cyc_grow (F : Nat → Nat → Int) (n i : Nat) : ∀ (f k : Nat) (out : List Int), cyc F n i (f + 1) k out = cyc F n i f k out ∨ ((∀ t, 1 ≤ t → t ≤ f → 0 ≤ itI F n t k ∧ itI F n t k ≠ i) ∧ itI F n (f + 1) k = i)
  | 0, k, out => by
    by_cases h1 : nxt F n k < 0
    · exact .inl (by simp [cyc, h1])
    · by_cases h2 : nxt F n k = i
      · refine .inr ⟨fun t a b => by omega, ?_⟩
        show stepI F n k = i
        rw [stepI_nat, h2]
      · exact .inl (by simp [cyc, h2])
  | f + 1, k, out => by
    by_cases h1 : nxt F n k < 0
    · exact .inl (by rw [cyc_succ, cyc_succ]; unfold chk; rw [if_pos h1, if_pos h1])
    · by_cases h2 : nxt F n k = i
      · exact .inl (by rw [cyc_succ, cyc_succ]; unfold chk; rw [if_neg h1, if_neg h1, if_pos h2, if_pos h2])
      · have e : ((nxt F n k).toNat : Int) = nxt F n k := Int.toNat_of_nonneg (by omega)
        rcases cyc_grow F n i f (nxt F n k).toNat (out ++ [F (nxt F n k).toNat 0]) with h | ⟨h3, h4⟩
        · refine .inl ?_
          rw [cyc_succ, cyc_succ (f := f)]
          unfold chk
          rw [if_neg h1, if_neg h2, if_neg h1, if_neg h2, h]
        · refine .inr ⟨fun t a b => ?_, ?_⟩
          · match t, a with
            | t + 1, _ =>
              show 0 ≤ itI F n t (stepI F n k) ∧ itI F n t (stepI F n k) ≠ i
              rw [stepI_nat]
              rcases Nat.eq_zero_or_pos t with h0 | h0
              · subst h0; exact ⟨by show 0 ≤ nxt F n k; omega, h2⟩
              · have := h3 t h0 (by omega)
                rwa [e] at this
          · show itI F n (f + 1) (stepI F n k) = i
            rw [stepI_nat]
            rwa [e] at h4
theorem itI_lt (F : Nat → Nat → Int) (n : Nat) (x : Int) (t : Nat) : itI F n (t + 1) x < n := by
  have : itI F n (t + 1) x = stepI F n (itI F n t x) := itI_add F n t 1 x
  rw [this]
  unfold stepI
  split
  · omega
  · rcases nxt_cases F n (itI F n t x).toNat with h | ⟨j, h, hj⟩ <;> omega
theorem cyc_more {F : Nat → Nat → Int} {n i : Nat} (hi : i < n) (out : List Int) : cyc F n i (n + 1) i out = cyc F n i n i out := by
  rcases cyc_grow F n i n i out with h | ⟨h1, h2⟩
  · exact h
  · exfalso
    obtain ⟨m, rfl⟩ : ∃ m, n = m + 1 := ⟨n - 1, by omega⟩
    obtain ⟨s, t, hst, htn, e⟩ := pigeon m (fun j => if (itI F (m + 1) (j + 1) i).toNat < i then (itI F (m + 1) (j + 1) i).toNat else (itI F (m + 1) (j + 1) i).toNat - 1) (fun j hj => by
      have h3 := h1 (j + 1) (by omega) (by omega)
      have h4 := itI_lt F (m + 1) i j
      generalize itI F (m + 1) (j + 1) i = x at h3 h4
      split <;> omega)
    have s1 := h1 (s + 1) (by omega) (by omega)
    have t1 := h1 (t + 1) (by omega) (by omega)
    have hst' : itI F (m + 1) (s + 1) i = itI F (m + 1) (t + 1) i := by
      split at e <;> split at e <;> omega
    have h5 := itI_add F (m + 1) (t + 1) (m + 1 + 1 - (t + 1)) i
    have h6 := itI_add F (m + 1) (s + 1) (m + 1 + 1 - (t + 1)) i
    rw [← hst', ← h6] at h5
    have h7 : t + 1 + (m + 1 + 1 - (t + 1)) = m + 1 + 1 := by omega
    rw [h7, h2] at h5
    exact (h1 (s + 1 + (m + 1 + 1 - (t + 1))) (by omega) (by omega)).2 h5.symm
end Go.Proofs.Ytoebibgkpmppdaa
