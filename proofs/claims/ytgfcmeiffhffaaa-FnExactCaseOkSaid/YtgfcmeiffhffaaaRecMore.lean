/- Rows of records of five, six and seven cells. -/
import Derived.Test.YtgfcmeiffhffaaaRecV
namespace Go.Proofs.Ytgfcmeiffhffaaa
open Go.RowKit

theorem Recs.at5 {w : World} {A : Option Addr} {n : Nat} {F : Nat → Nat → Int} (h : Recs w 5 A n F) {i : Nat} (hi : i < n) : ∃ b off, A = some ⟨b, off, none⟩ ∧ b < w.heap.size ∧ w.cell? ⟨b, off + i * 5, none⟩ = some (.int .i64 (F i 0)) ∧ w.cell? ⟨b, off + i * 5 + 1, none⟩ = some (.int .i64 (F i 1)) ∧ w.cell? ⟨b, off + i * 5 + 2, none⟩ = some (.int .i64 (F i 2)) ∧ w.cell? ⟨b, off + i * 5 + 3, none⟩ = some (.int .i64 (F i 3)) ∧ w.cell? ⟨b, off + i * 5 + 4, none⟩ = some (.int .i64 (F i 4)) := by
  rcases h with h | ⟨b, off, e, hb, hc⟩
  · omega
  · exact ⟨b, off, e, hb, hc i hi 0 (by omega), hc i hi 1 (by omega), hc i hi 2 (by omega), hc i hi 3 (by omega), hc i hi 4 (by omega)⟩
theorem Recs.at6 {w : World} {A : Option Addr} {n : Nat} {F : Nat → Nat → Int} (h : Recs w 6 A n F) {i : Nat} (hi : i < n) : ∃ b off, A = some ⟨b, off, none⟩ ∧ b < w.heap.size ∧ w.cell? ⟨b, off + i * 6, none⟩ = some (.int .i64 (F i 0)) ∧ w.cell? ⟨b, off + i * 6 + 1, none⟩ = some (.int .i64 (F i 1)) ∧ w.cell? ⟨b, off + i * 6 + 2, none⟩ = some (.int .i64 (F i 2)) ∧ w.cell? ⟨b, off + i * 6 + 3, none⟩ = some (.int .i64 (F i 3)) ∧ w.cell? ⟨b, off + i * 6 + 4, none⟩ = some (.int .i64 (F i 4)) ∧ w.cell? ⟨b, off + i * 6 + 5, none⟩ = some (.int .i64 (F i 5)) := by
  rcases h with h | ⟨b, off, e, hb, hc⟩
  · omega
  · exact ⟨b, off, e, hb, hc i hi 0 (by omega), hc i hi 1 (by omega), hc i hi 2 (by omega), hc i hi 3 (by omega), hc i hi 4 (by omega), hc i hi 5 (by omega)⟩
theorem put_rec5 {cs : Array Value} {n m : Nat} {F : Nat → Nat → Int} (hs : cs.size = n * 5) (hm : m < n) (hF : ∀ i, i < m → ∀ j, j < 5 → cs[i * 5 + j]? = some (.int .i64 (F i j))) :
    ∀ i, i < m + 1 → ∀ j, j < 5 → (((((cs.setIfInBounds (m * 5) (.int .i64 (F m 0))).setIfInBounds (m * 5 + 1) (.int .i64 (F m 1))).setIfInBounds (m * 5 + 2) (.int .i64 (F m 2))).setIfInBounds (m * 5 + 3) (.int .i64 (F m 3))).setIfInBounds (m * 5 + 4) (.int .i64 (F m 4)))[i * 5 + j]? = some (.int .i64 (F i j)) := by
  intro i hi j hj
  rcases Nat.lt_or_ge i m with h | h
  · rw [Array.getElem?_setIfInBounds_ne (by omega), Array.getElem?_setIfInBounds_ne (by omega), Array.getElem?_setIfInBounds_ne (by omega), Array.getElem?_setIfInBounds_ne (by omega), Array.getElem?_setIfInBounds_ne (by omega)]
    exact hF i h j hj
  · obtain rfl : i = m := by omega
    have hj' : j = 0 ∨ j = 1 ∨ j = 2 ∨ j = 3 ∨ j = 4 := by omega
    rcases hj' with rfl | rfl | rfl | rfl | rfl
    all_goals
      simp only [Array.getElem?_setIfInBounds, Array.size_setIfInBounds, hs]
      repeat' split
      all_goals first | rfl | omega | exact absurd trivial (by assumption)
theorem put_rec6 {cs : Array Value} {n m : Nat} {F : Nat → Nat → Int} (hs : cs.size = n * 6) (hm : m < n) (hF : ∀ i, i < m → ∀ j, j < 6 → cs[i * 6 + j]? = some (.int .i64 (F i j))) :
    ∀ i, i < m + 1 → ∀ j, j < 6 → ((((((cs.setIfInBounds (m * 6) (.int .i64 (F m 0))).setIfInBounds (m * 6 + 1) (.int .i64 (F m 1))).setIfInBounds (m * 6 + 2) (.int .i64 (F m 2))).setIfInBounds (m * 6 + 3) (.int .i64 (F m 3))).setIfInBounds (m * 6 + 4) (.int .i64 (F m 4))).setIfInBounds (m * 6 + 5) (.int .i64 (F m 5)))[i * 6 + j]? = some (.int .i64 (F i j)) := by
  intro i hi j hj
  rcases Nat.lt_or_ge i m with h | h
  · rw [Array.getElem?_setIfInBounds_ne (by omega), Array.getElem?_setIfInBounds_ne (by omega), Array.getElem?_setIfInBounds_ne (by omega), Array.getElem?_setIfInBounds_ne (by omega), Array.getElem?_setIfInBounds_ne (by omega), Array.getElem?_setIfInBounds_ne (by omega)]
    exact hF i h j hj
  · obtain rfl : i = m := by omega
    have hj' : j = 0 ∨ j = 1 ∨ j = 2 ∨ j = 3 ∨ j = 4 ∨ j = 5 := by omega
    rcases hj' with rfl | rfl | rfl | rfl | rfl | rfl
    all_goals
      simp only [Array.getElem?_setIfInBounds, Array.size_setIfInBounds, hs]
      repeat' split
      all_goals first | rfl | omega | exact absurd trivial (by assumption)
end Go.Proofs.Ytgfcmeiffhffaaa
