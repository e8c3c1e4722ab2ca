/- Slices of spells that came in, opened to rows of records. -/
import Derived.Test.YtgfcmeiffhffaaaOpenR
import Derived.Test.YtgfcmeiffhffaaaRecSpell
import Derived.ChangeArms
namespace Go.Proofs.Ytgfcmeiffhffaaa
open Go.ChangeShapes Go.WideShapes Go.ChangeAt Go.RowKit Go.Deep

section
variable {H : Type} {enc : TypeId × Value → H} {P : Program} {w : World} {base : Nat} {spare : Nat → Bool} {held : Bool}
theorem open_spells {t e : TypeId} {f0 f1 f2 f3 : Field} {v : Value} {y : DataW H × List MemPlace} {fuel : Nat} (ht : P.underlying t = some (.slice e)) (he : P.underlying e = some (.struct #[f0, f1, f2, f3]))
    (hone : oneCellFields P #[f0, f1, f2, f3] = true) (hC : P.cellsOf e = 4) {ti tb : TypeId} (hi : P.underlying ti = some (.int .i64)) (hb : P.underlying tb = some .bool) (hf : DataW.trod enc P w base spare held fuel t [v] = some y)
    (k0 : f0.type = ti := by rfl) (k1 : f1.type = ti := by rfl) (k2 : f2.type = ti := by rfl) (k3 : f3.type = tb := by rfl) :
    ∃ (A : Option Addr) (n cap : Nat) (F : Nat → Nat → Int) (L : Nat → Bool), v = .slice A n cap ∧ n ≤ cap ∧ cap ≤ maxLen ∧ RecV w 4 A n (spellV F L) := by
  rcases open_fields ht he hone hC hf with hcs | ⟨a, len, cap, m, hcs, hl, hm, hmm, hh⟩
  · simp at hcs
    subst hcs
    exact ⟨_, _, _, fun _ _ => 0, fun _ => false, rfl, Nat.le_refl _, by simp [maxLen], .inl rfl⟩
  · simp at hcs
    subst hcs
    have hlm : len ≤ m := by rw [hmm]; split <;> omega
    have key : ∀ i, i < len → ∃ x0 x1 x2 b3, w.cell? (a.add (i * 4)) = some (.int .i64 x0) ∧ w.cell? (a.add (i * 4 + 1)) = some (.int .i64 x1) ∧ w.cell? (a.add (i * 4 + 2)) = some (.int .i64 x2) ∧ w.cell? (a.add (i * 4 + 3)) = some (.bool b3) := by
      intro i hil
      obtain ⟨_, v0, _, hc0, hy0⟩ := hh i (by omega) 0 f0 rfl
      obtain ⟨_, v1, _, hc1, hy1⟩ := hh i (by omega) 1 f1 rfl
      obtain ⟨_, v2, _, hc2, hy2⟩ := hh i (by omega) 2 f2 rfl
      obtain ⟨_, v3, _, hc3, hy3⟩ := hh i (by omega) 3 f3 rfl
      rw [k0] at hy0
      rw [k1] at hy1
      rw [k2] at hy2
      rw [k3] at hy3
      obtain ⟨x0, e0, _, _⟩ := DataW.trod_int hi hy0
      obtain ⟨x1, e1, _, _⟩ := DataW.trod_int hi hy1
      obtain ⟨x2, e2, _, _⟩ := DataW.trod_int hi hy2
      obtain ⟨b3, e3, _⟩ := DataW.trod_bool hb hy3
      simp at e0 e1 e2 e3
      subst e0 e1 e2 e3
      exact ⟨x0, x1, x2, b3, by simpa using hc0, by simpa using hc1, by simpa using hc2, by simpa using hc3⟩
    rcases Nat.eq_zero_or_pos len with h0 | h0
    · exact ⟨_, _, _, fun _ _ => 0, fun _ => false, rfl, hl, hm, .inl h0⟩
    · obtain ⟨_, _, _, _, hc0, _⟩ := key 0 h0
      obtain ⟨b, off, spot⟩ := a
      have hspot : spot = none := by simpa [Addr.add] using World.cell?_spot hc0
      subst hspot
      rw [add_none] at hc0
      refine ⟨_, _, _, fun i j => match w.cell? ⟨b, off + i * 4 + j, none⟩ with | some (.int _ x) => x | _ => 0, fun i => match w.cell? ⟨b, off + i * 4 + 3, none⟩ with | some (.bool x) => x | _ => false, rfl, hl, hm, .inr ⟨b, off, rfl, cell_lt hc0, fun i hil j hj => ?_⟩⟩
      obtain ⟨x0, x1, x2, b3, a0, a1, a2, a3⟩ := key i hil
      rw [add_none] at a0 a1 a2 a3
      rw [← Nat.add_assoc] at a1 a2 a3
      have hj' : j = 0 ∨ j = 1 ∨ j = 2 ∨ j = 3 := by omega
      rcases hj' with rfl | rfl | rfl | rfl
      · simp only [spellV, Nat.add_zero, a0]
      · simp only [spellV, a1]
      · simp only [spellV, a2]
      · simp only [spellV, a3]
end
end Go.Proofs.Ytgfcmeiffhffaaa
