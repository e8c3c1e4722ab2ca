/- Rows of records of five, six and seven cells. -/
import Derived.Test.YtgfcmeiffhffaaaJRec
namespace Go.Proofs.Ytgfcmeiffhffaaa
open Go.RowKit

/-- The first n records of k numbers from A on are V 0, V 1, .. . -/
def RecV (w : World) (k : Nat) (A : Option Addr) (n : Nat) (V : Nat → Nat → Value) : Prop :=
  n = 0 ∨ ∃ b off, A = some ⟨b, off, none⟩ ∧ b < w.heap.size ∧ ∀ i, i < n → ∀ j, j < k → w.cell? ⟨b, off + i * k + j, none⟩ = some (V i j)
section
variable {w w' : World} {k : Nat} {A : Option Addr} {n : Nat} {V : Nat → Nat → Value}
theorem RecV.drew (h : RecV w k A n V) : RecV w.drew k A n V := h
theorem RecV.drewN (h : RecV w k A n V) (m : Nat) : RecV (w.drewN m) k A n V := h
theorem RecV.kept (h : RecV w k A n V) (hb : Below w.heap.size w w') : RecV w' k A n V := by
  rcases h with h | ⟨b, off, rfl, hlt, hc⟩
  · exact .inl h
  · refine .inr ⟨b, off, rfl, Nat.lt_of_lt_of_le hlt hb.size, fun i hi j hj => ?_⟩
    rw [← hc i hi j hj]
    exact hb.cell (p := ⟨b, off + i * k + j, none⟩) hlt
theorem RecV.alloc (h : RecV w k A n V) (o : Obj) : RecV (w.alloc o) k A n V := h.kept ((Below.refl _ _).alloc (Nat.le_refl _) o)
theorem RecV.moved {row : Option Nat} (h : RecV w k A n V) (hg : w.grownBy w' row) (ha : ∀ b off, A = some ⟨b, off, none⟩ → some b ≠ row) : RecV w' k A n V := by
  rcases h with h | ⟨b, off, rfl, hb, hc⟩
  · exact .inl h
  · refine .inr ⟨b, off, rfl, Nat.lt_of_lt_of_le hb hg.size, fun i hi j hj => ?_⟩
    rw [← hc i hi j hj]
    exact World.cell?_of_block (hg.block b hb (ha b off rfl))
theorem RecV.at4 (h : RecV w 4 A n V) {i : Nat} (hi : i < n) : ∃ b off, A = some ⟨b, off, none⟩ ∧ b < w.heap.size ∧ w.cell? ⟨b, off + i * 4, none⟩ = some (V i 0) ∧ w.cell? ⟨b, off + i * 4 + 1, none⟩ = some (V i 1) ∧ w.cell? ⟨b, off + i * 4 + 2, none⟩ = some (V i 2) ∧ w.cell? ⟨b, off + i * 4 + 3, none⟩ = some (V i 3) := by
  rcases h with h | ⟨b, off, e, hb, hc⟩
  · omega
  · exact ⟨b, off, e, hb, hc i hi 0 (by omega), hc i hi 1 (by omega), hc i hi 2 (by omega), hc i hi 3 (by omega)⟩
theorem RecV.has (h : RecV w k A n V) (hn : 0 < n) : ∃ b off, A = some ⟨b, off, none⟩ ∧ b < w.heap.size := by
  rcases h with h | ⟨b, off, e, hb, _⟩
  · omega
  · exact ⟨b, off, e, hb⟩
end
/-- The cells of n records of k numbers, one behind the other. -/
def recV (V : Nat → Nat → Value) (k n : Nat) : List Value := (List.range (n * k)).map fun m => V (m / k) (m % k)
theorem recV_length (V : Nat → Nat → Value) (k n : Nat) : (recV V k n).length = n * k := by simp [recV]
theorem recV_get (V : Nat → Nat → Value) {k n i j : Nat} (hi : i < n) (hj : j < k) : (recV V k n)[i * k + j]? = some (V i j) := by
  simp [recV, idx_lt hi hj, idx_div hj, idx_mod hj]
theorem recV_get' (V : Nat → Nat → Value) {k n m : Nat} (hm : m < n * k) : (recV V k n)[m]? = some (V (m / k) (m % k)) := by
  simp [recV, hm]
/-- What is owned reads as a row of records, in a block from base on. -/
theorem own_recV {w : World} {base : Nat} {e : TypeId} {k : Nat} {v : Value} {n : Nat} {V : Nat → Nat → Value} (h : w.ownsRow base e k v n (recV V k n)) :
    ∃ A c, v = .slice A n c ∧ n ≤ maxLen ∧ RecV w k A n V := by
  rcases h.2 with ⟨rfl, h0⟩ | ⟨g, cap, cur, rfl, hg, hh, hn, hc, _, _⟩
  · rcases Nat.eq_zero_or_pos n with h1 | h1
    · subst h1; exact ⟨none, 0, rfl, by simp [maxLen], .inl rfl⟩
    · first | exact ⟨none, 0, by simp_all, by simp_all, .inl (by simp_all)⟩ | omega
  · have hlt := (h.lt g rfl).2
    refine ⟨_, cap, rfl, by omega, .inr ⟨g, 0, rfl, hlt, fun i hi j hj => ?_⟩⟩
    have := h.cells (g := g) rfl (i * k + j) _ (recV_get V hi hj)
    rw [add_zero_none] at this
    simpa using this
theorem own_recv {w : World} {base : Nat} {e : TypeId} {k : Nat} {A : Option Addr} {n c : Nat} {V : Nat → Nat → Value} (h : w.ownsRow base e k (.slice A n c) n (recV V k n)) : RecV w k A n V := by
  obtain ⟨A', c', e1, _, hr⟩ := own_recV h
  cases e1
  exact hr
/-- A block whose cells are the records is an owned row. -/
theorem own_of_boxV {w : World} {base g : Nat} {e : TypeId} {k n : Nat} {cs : Array Value} {V : Nat → Nat → Value} (hk : 0 < k) (hg : base ≤ g) (hx : Box w g e cs) (hs : cs.size = n * k) (hn : n ≤ maxLen) (hc : ∀ i, i < n → ∀ j, j < k → cs[i * k + j]? = some (V i j)) :
    w.ownsRow base e k (.slice (some ⟨g, 0, none⟩) n n) n (recV V k n) := by
  refine ⟨recV_length V k n, .inr ⟨g, n, cs, rfl, hg, hx, Nat.le_refl _, hn, by omega, ?_⟩⟩
  apply List.ext_getElem?
  intro m
  by_cases hm : m < n * k
  · have h1 := hc (m / k) (Nat.div_lt_of_lt_mul (by rwa [Nat.mul_comm])) (m % k) (Nat.mod_lt _ hk)
    have h2 : m / k * k + m % k = m := by rw [Nat.mul_comm]; exact Nat.div_add_mod m k
    rw [h2] at h1
    first
    | (rw [recV_get' V hm, List.getElem?_take_of_lt hm]; simpa using h1.symm)
    | (rw [recV_get' V hm, List.getElem?_take_of_lt hm]; simpa using h1)
  · rw [List.getElem?_eq_none (by simp [hs]; omega), List.getElem?_eq_none (by simp [recV_length]; omega)]
theorem put_recV4 {cs : Array Value} {n m : Nat} {V : Nat → Nat → Value} (hs : cs.size = n * 4) (hm : m < n) (hF : ∀ i, i < m → ∀ j, j < 4 → cs[i * 4 + j]? = some (V i j)) :
    ∀ i, i < m + 1 → ∀ j, j < 4 → ((((cs.setIfInBounds (m * 4) (V m 0)).setIfInBounds (m * 4 + 1) (V m 1)).setIfInBounds (m * 4 + 2) (V m 2)).setIfInBounds (m * 4 + 3) (V m 3))[i * 4 + j]? = some (V i j) := by
  intro i hi j hj
  rcases Nat.lt_or_ge i m with h | h
  · rw [Array.getElem?_setIfInBounds_ne (by omega), Array.getElem?_setIfInBounds_ne (by omega), Array.getElem?_setIfInBounds_ne (by omega), Array.getElem?_setIfInBounds_ne (by omega)]
    exact hF i h j hj
  · obtain rfl : i = m := by omega
    have hj' : j = 0 ∨ j = 1 ∨ j = 2 ∨ j = 3 := by omega
    rcases hj' with rfl | rfl | rfl | rfl
    all_goals
      simp only [Array.getElem?_setIfInBounds, Array.size_setIfInBounds, hs]
      repeat' split
      all_goals first | rfl | omega | exact absurd trivial (by assumption)
end Go.Proofs.Ytgfcmeiffhffaaa
namespace Go.Proofs.Ytgfcmeiffhffaaa
open Go.RowKit

theorem Recs.at5 {w : World} {A : Option Addr} {n : Nat} {F : Nat → Nat → Int} (h : Recs w 5 A n F) {i : Nat} (hi : i < n) : ∃ b off, A = some ⟨b, off, none⟩ ∧ b < w.heap.size ∧ w.cell? ⟨b, off + i * 5, none⟩ = some (.int .i64 (F i 0)) ∧ w.cell? ⟨b, off + i * 5 + 1, none⟩ = some (.int .i64 (F i 1)) ∧ w.cell? ⟨b, off + i * 5 + 2, none⟩ = some (.int .i64 (F i 2)) ∧ w.cell? ⟨b, off + i * 5 + 3, none⟩ = some (.int .i64 (F i 3)) ∧ w.cell? ⟨b, off + i * 5 + 4, none⟩ = some (.int .i64 (F i 4)) := by
  rcases h with h | ⟨b, off, e, hb, hc⟩
  · omega
  · exact ⟨b, off, e, hb, hc i hi 0 (by omega), hc i hi 1 (by omega), hc i hi 2 (by omega), hc i hi 3 (by omega), hc i hi 4 (by omega)⟩
theorem Recs.at6 {w : World} {A : Option Addr} {n : Nat} {F : Nat → Nat → Int} (h : Recs w 6 A n F) {i : Nat} (hi : i < n) : ∃ b off, A = some ⟨b, off, none⟩ ∧ b < w.heap.size ∧ w.cell? ⟨b, off + i * 6, none⟩ = some (.int .i64 (F i 0)) ∧ w.cell? ⟨b, off + i * 6 + 1, none⟩ = some (.int .i64 (F i 1)) ∧ w.cell? ⟨b, off + i * 6 + 2, none⟩ = some (.int .i64 (F i 2)) ∧ w.cell? ⟨b, off + i * 6 + 3, none⟩ = some (.int .i64 (F i 3)) ∧ w.cell? ⟨b, off + i * 6 + 4, none⟩ = some (.int .i64 (F i 4)) ∧ w.cell? ⟨b, off + i * 6 + 5, none⟩ = some (.int .i64 (F i 5)) := by
  rcases h with h | ⟨b, off, e, hb, hc⟩
  · omega
  · exact ⟨b, off, e, hb, hc i hi 0 (by omega), hc i hi 1 (by omega), hc i hi 2 (by omega), hc i hi 3 (by omega), hc i hi 4 (by omega), hc i hi 5 (by omega)⟩
theorem put_rec5 {cs : Array Value} {n m : Nat} {F : Nat → Nat → Int} (hs : cs.size = n * 5) (hm : m < n) (hF : ∀ i, i < m → ∀ j, j < 5 → cs[i * 5 + j]? = some (.int .i64 (F i j))) :
    ∀ i, i < m + 1 → ∀ j, j < 5 → (((((cs.setIfInBounds (m * 5) (.int .i64 (F m 0))).setIfInBounds (m * 5 + 1) (.int .i64 (F m 1))).setIfInBounds (m * 5 + 2) (.int .i64 (F m 2))).setIfInBounds (m * 5 + 3) (.int .i64 (F m 3))).setIfInBounds (m * 5 + 4) (.int .i64 (F m 4)))[i * 5 + j]? = some (.int .i64 (F i j)) := by
  intro i hi j hj
  rcases Nat.lt_or_ge i m with h | h
  · rw [Array.getElem?_setIfInBounds_ne (by omega), Array.getElem?_setIfInBounds_ne (by omega), Array.getElem?_setIfInBounds_ne (by omega), Array.getElem?_setIfInBounds_ne (by omega), Array.getElem?_setIfInBounds_ne (by omega)]
    exact hF i h j hj
  · obtain rfl : i = m := by omega
    have hj' : j = 0 ∨ j = 1 ∨ j = 2 ∨ j = 3 ∨ j = 4 := by omega
    rcases hj' with rfl | rfl | rfl | rfl | rfl
    all_goals
      simp only [Array.getElem?_setIfInBounds, Array.size_setIfInBounds, hs]
      repeat' split
      all_goals first | rfl | omega | exact absurd trivial (by assumption)
theorem put_rec6 {cs : Array Value} {n m : Nat} {F : Nat → Nat → Int} (hs : cs.size = n * 6) (hm : m < n) (hF : ∀ i, i < m → ∀ j, j < 6 → cs[i * 6 + j]? = some (.int .i64 (F i j))) :
    ∀ i, i < m + 1 → ∀ j, j < 6 → ((((((cs.setIfInBounds (m * 6) (.int .i64 (F m 0))).setIfInBounds (m * 6 + 1) (.int .i64 (F m 1))).setIfInBounds (m * 6 + 2) (.int .i64 (F m 2))).setIfInBounds (m * 6 + 3) (.int .i64 (F m 3))).setIfInBounds (m * 6 + 4) (.int .i64 (F m 4))).setIfInBounds (m * 6 + 5) (.int .i64 (F m 5)))[i * 6 + j]? = some (.int .i64 (F i j)) := by
  intro i hi j hj
  rcases Nat.lt_or_ge i m with h | h
  · rw [Array.getElem?_setIfInBounds_ne (by omega), Array.getElem?_setIfInBounds_ne (by omega), Array.getElem?_setIfInBounds_ne (by omega), Array.getElem?_setIfInBounds_ne (by omega), Array.getElem?_setIfInBounds_ne (by omega), Array.getElem?_setIfInBounds_ne (by omega)]
    exact hF i h j hj
  · obtain rfl : i = m := by omega
    have hj' : j = 0 ∨ j = 1 ∨ j = 2 ∨ j = 3 ∨ j = 4 ∨ j = 5 := by omega
    rcases hj' with rfl | rfl | rfl | rfl | rfl | rfl
    all_goals
      simp only [Array.getElem?_setIfInBounds, Array.size_setIfInBounds, hs]
      repeat' split
      all_goals first | rfl | omega | exact absurd trivial (by assumption)
end Go.Proofs.Ytgfcmeiffhffaaa
