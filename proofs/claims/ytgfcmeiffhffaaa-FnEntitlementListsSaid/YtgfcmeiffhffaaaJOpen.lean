/- Slices that came in, opened to rows of numbers. -/
import Derived.ChangeSlices
import Derived.Test.YtgfcmeiffhffaaaJFrame
import Derived.Test.YtgfcmeiffhffaaaJRow
namespace Go.Proofs.Ytgfcmeiffhffaaa
open Go.ChangeShapes Go.WideShapes Go.ChangeAt Go.RowKit

theorem cell_lt {w : World} {b o : Nat} {v : Value} (h : w.cell? ⟨b, o, none⟩ = some v) : b < w.heap.size := by
  rcases Nat.lt_or_ge b w.heap.size with h1 | h1
  · exact h1
  · simp [World.cell?, Array.getElem?_eq_none h1] at h
theorem add_none (b off i : Nat) : (⟨b, off, none⟩ : Addr).add i = ⟨b, off + i, none⟩ := by
  simp only [Addr.add]
  split
  · rename_i h; subst h; rfl
  · rfl
section
variable {H : Type} {enc : TypeId × Value → H} {P : Program} {w : World} {base : Nat} {spare : Nat → Bool} {held : Bool}
theorem open_row_cells {t e : TypeId} {k : IntKind} {v : Value} {y : DataW H × List MemPlace} {fuel : Nat} (ht : P.underlying t = some (.slice e)) (he : P.underlying e = some (.int k)) (hc : P.cellsOf e = 1)
    (hf : DataW.trod enc P w base spare held fuel t [v] = some y) :
    ∃ (A : Option Addr) (n cap : Nat) (F : Nat → Int), v = .slice A n cap ∧ n ≤ cap ∧ cap ≤ maxLen ∧ Row w k A n F ∧ ∀ i, i < n → (Lit.int k (F i)).wf = true := by
  rcases open_ints ht he hc hf with ⟨hcs, _⟩ | ⟨a, l, c, zs, hcs, _, hl, hm, hz, _, hcell, hwf⟩
  · simp at hcs
    subst hcs
    exact ⟨_, _, _, fun _ => 0, rfl, Nat.le_refl _, by simp [maxLen], .inl rfl, fun i hi => by omega⟩
  · simp at hcs
    subst hcs
    have hlen : l ≤ zs.length := by rw [hz]; split <;> omega
    refine ⟨_, _, _, fun i => zs.getD i 0, rfl, hl, hm, ?_, fun i hi => ?_⟩
    · rcases Nat.eq_zero_or_pos l with h0 | h0
      · exact .inl h0
      · have hc0 := hcell 0 (by omega)
        obtain ⟨b, off, spot⟩ := a
        have hspot : spot = none := by simpa [Addr.add] using World.cell?_spot hc0
        subst hspot
        refine .inr ⟨b, off, rfl, ?_, fun i hi => ?_⟩
        · rw [add_none] at hc0
          exact cell_lt hc0
        · have := hcell i (by omega)
          rwa [add_none] at this
    · refine hwf _ ?_
      show zs.getD i 0 ∈ zs
      rw [List.getD_eq_getElem?_getD, List.getElem?_eq_getElem (show i < zs.length by omega)]
      exact List.getElem_mem _
theorem open_row {t e : TypeId} {k : IntKind} {v : Value} {d : DataW H} {p : List MemPlace} {r : Reach} {b0 : Nat} (ht : P.underlying t = some (.slice e)) (he : P.underlying e = some (.int k)) (hc : P.cellsOf e = 1)
    (hv : Value.okWide P w r b0 t v) (h : DataW.Trod enc P w base spare held t v d p) :
    ∃ (A : Option Addr) (n cap : Nat) (F : Nat → Int), v = .slice A n cap ∧ n ≤ cap ∧ cap ≤ maxLen ∧ Row w k A n F ∧ ∀ i, i < n → (Lit.int k (F i)).wf = true := by
  obtain ⟨a0, len, cap, rfl⟩ := okWide_slice ht hv
  obtain ⟨fuel, hf⟩ := h
  exact open_row_cells ht he hc (by simpa [Value.cells] using hf)
end
end Go.Proofs.Ytgfcmeiffhffaaa
