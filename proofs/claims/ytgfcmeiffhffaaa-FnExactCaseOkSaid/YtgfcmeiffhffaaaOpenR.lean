/- Slices of records that came in, opened to rows of records. -/
import Derived.Test.YtgfcmeiffhffaaaOpen
import Derived.Test.YtgfcmeiffhffaaaRec
import Derived.Deep.Slices
import Derived.Deep.Fields
import Derived.ChangeSame
namespace Go.Proofs.Ytgfcmeiffhffaaa
open Go.ChangeShapes Go.WideShapes Go.ChangeAt Go.RowKit Go.Deep

section
variable {H : Type} {enc : TypeId × Value → H} {P : Program} {w : World} {base : Nat} {spare : Nat → Bool} {held : Bool}
theorem open_fields {t e : TypeId} {fs : Array Field} {fuel : Nat} {cs : List Value} {x : DataW H × List MemPlace} (ht : P.underlying t = some (.slice e)) (he : P.underlying e = some (.struct fs))
    (hone : oneCellFields P fs = true) (hC : P.cellsOf e = fs.size) (h : DataW.trod enc P w base spare held fuel t cs = some x) :
    cs = [.slice none 0 0] ∨
    ∃ (a : Addr) (len cap m : Nat), cs = [.slice (some a) len cap] ∧ len ≤ cap ∧ cap ≤ maxLen ∧ m = (if spare a.block then cap else len) ∧
      ∀ i, i < m → ∀ (j : Nat) (f : Field), fs[j]? = some f → ∃ (n : Nat) (v : Value) (y : DataW H × List MemPlace), w.cell? (a.add (i * fs.size + j)) = some v ∧ DataW.trod enc P w base spare held n f.type [v] = some y := by
  rcases open_slice ht h with h0 | ⟨a, len, cap, m, n, D, Pl, hcs, hb, hl, hm, hmm, hx, hi⟩
  · exact .inl h0.1
  · refine .inr ⟨a, len, cap, m, hcs, hl, hm, hmm, fun i him j f hj => ?_⟩
    obtain ⟨cs', hc, ht'⟩ := hi i him
    rw [hC] at hc
    obtain ⟨ys, n', hn', hy, hlen, hyl, hf⟩ := DataW.trod_struct he ht'
    obtain ⟨_, hcl, hat⟩ := World.cells?_some hc
    obtain ⟨ho, hk⟩ := hone_of hone j f hj
    have hjl : j < fs.size := (Array.getElem?_eq_some_iff.1 hj).1
    have hcell := hat j hjl
    have hv : cs'[j]? = some (cs'[j]'(by omega)) := List.getElem?_eq_getElem (by omega)
    have h1 := hf j f hj
    rw [ho, hk] at h1
    have hone' : (cs'.drop j).take 1 = [cs'[j]'(by omega)] := by
      rw [List.drop_eq_getElem_cons (by omega)]
      rfl
    rw [hone'] at h1
    have hys : ys[j]? = some (ys[j]'(by omega)) := List.getElem?_eq_getElem (by omega)
    refine ⟨_, _, _, ?_, h1.trans hys⟩
    rw [← Go.Deep.add_add, hcell, hv]
theorem open_recs_cells {t e : TypeId} {fs : Array Field} {v : Value} {y : DataW H × List MemPlace} {fuel : Nat} (k : Nat) (hk : 0 < k) (ht : P.underlying t = some (.slice e)) (he : P.underlying e = some (.struct fs))
    (hone : oneCellFields P fs = true) (hC : P.cellsOf e = fs.size) (hfs : fs.size = k) (hint : (fs.toList.all fun f => match P.underlying f.type with | some (.int .i64) => true | _ => false) = true)
    (hf : DataW.trod enc P w base spare held fuel t [v] = some y) :
    ∃ (A : Option Addr) (n cap : Nat) (F : Nat → Nat → Int), v = .slice A n cap ∧ n ≤ cap ∧ cap ≤ maxLen ∧ Recs w k A n F ∧ ∀ i, i < n → ∀ j, j < k → (Lit.int .i64 (F i j)).wf = true := by
  rcases open_fields ht he hone hC hf with hcs | ⟨a, len, cap, m, hcs, hl, hm, hmm, hi⟩
  · simp at hcs
    subst hcs
    exact ⟨_, _, _, fun _ _ => 0, rfl, Nat.le_refl _, by simp [maxLen], .inl rfl, fun i hi => by omega⟩
  · simp at hcs
    subst hcs
    have hlm : len ≤ m := by rw [hmm]; split <;> omega
    have key : ∀ i, i < len → ∀ j, j < k → ∃ x, w.cell? (a.add (i * k + j)) = some (.int .i64 x) ∧ (Lit.int .i64 x).wf = true := by
      intro i hil j hj
      have hjf : j < fs.size := by omega
      obtain ⟨n, v, y, hc, hy⟩ := hi i (by omega) j fs[j] (Array.getElem?_eq_getElem hjf)
      have hu : P.underlying fs[j].type = some (.int .i64) := by
        have := List.all_eq_true.1 hint fs[j] (by simp)
        revert this
        cases hq : P.underlying fs[j].type with
        | none => simp
        | some q =>
          cases q with
          | int kk => cases kk <;> simp
          | _ => simp
      obtain ⟨x, e0, rfl, wf⟩ := DataW.trod_int hu hy
      simp at e0
      subst e0
      rw [hfs] at hc
      exact ⟨x, hc, wf⟩
    rcases Nat.eq_zero_or_pos len with h0 | h0
    · exact ⟨_, _, _, fun _ _ => 0, rfl, hl, hm, .inl h0, fun i hi => by omega⟩
    · obtain ⟨x0, hc0, _⟩ := key 0 h0 0 hk
      obtain ⟨b, off, spot⟩ := a
      have hspot : spot = none := by simpa [Addr.add] using World.cell?_spot hc0
      subst hspot
      have hF : ∀ i, i < len → ∀ j, j < k → w.cell? ⟨b, off + i * k + j, none⟩ = some (.int .i64 (match w.cell? ⟨b, off + i * k + j, none⟩ with | some (.int _ x) => x | _ => 0)) ∧ (Lit.int .i64 (match w.cell? ⟨b, off + i * k + j, none⟩ with | some (.int _ x) => x | _ => 0)).wf = true := by
        intro i hil j hj
        obtain ⟨x, hc, wf⟩ := key i hil j hj
        rw [add_none, ← Nat.add_assoc] at hc
        rw [hc]
        exact ⟨rfl, wf⟩
      rw [add_none] at hc0
      exact ⟨_, _, _, fun i j => match w.cell? ⟨b, off + i * k + j, none⟩ with | some (.int _ x) => x | _ => 0, rfl, hl, hm, .inr ⟨b, off, rfl, cell_lt hc0, fun i hil j hj => (hF i hil j hj).1⟩, fun i hil j hj => (hF i hil j hj).2⟩
theorem open_recs {t e : TypeId} {fs : Array Field} {v : Value} {d : DataW H} {p : List MemPlace} {r : Reach} {b0 : Nat} (k : Nat) (hk : 0 < k) (ht : P.underlying t = some (.slice e)) (he : P.underlying e = some (.struct fs))
    (hone : oneCellFields P fs = true) (hC : P.cellsOf e = fs.size) (hfs : fs.size = k) (hint : (fs.toList.all fun f => match P.underlying f.type with | some (.int .i64) => true | _ => false) = true)
    (hv : Value.okWide P w r b0 t v) (h : DataW.Trod enc P w base spare held t v d p) :
    ∃ (A : Option Addr) (n cap : Nat) (F : Nat → Nat → Int), v = .slice A n cap ∧ n ≤ cap ∧ cap ≤ maxLen ∧ Recs w k A n F ∧ ∀ i, i < n → ∀ j, j < k → (Lit.int .i64 (F i j)).wf = true := by
  obtain ⟨a0, len, cap, rfl⟩ := okWide_slice ht hv
  obtain ⟨fuel, hf⟩ := h
  exact open_recs_cells k hk ht he hone hC hfs hint (by simpa [Value.cells] using hf)
end
end Go.Proofs.Ytgfcmeiffhffaaa
