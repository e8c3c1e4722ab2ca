/- Rows of numbers that a call has made. -/
import Derived.Maps.AppendAt
import Derived.OwnWalk
import Derived.Test.YtgfcmeiffhffaaaJRow
import Derived.Test.YtgfcmeiffhffaaaJFind
namespace Go.Proofs.Ytgfcmeiffhffaaa
open Go.RowKit

theorem int_inf : (Try.prog.info? 3).map (fun i => (i.zero, i.size, i.bytes)) = some (some (.int .i64 0), 1, 8) := by kernel_rfl
/-- The cells of G 0, .., G (m-1). -/
def ints (G : Nat → Int) (m : Nat) : List Value := (List.range m).map fun i => .int .i64 (G i)
theorem ints_succ (G : Nat → Int) (m : Nat) : ints G (m + 1) = ints G m ++ [.int .i64 (G m)] := by simp [ints, List.range_succ]
theorem ints_get (G : Nat → Int) {m i : Nat} (h : i < m) : (ints G m)[i]? = some (.int .i64 (G i)) := by simp [ints, h]
theorem ints_congr {G G' : Nat → Int} {m : Nat} (h : ∀ i, i < m → G i = G' i) : ints G m = ints G' m := by
  unfold ints
  apply List.map_congr_left
  intro i hi
  rw [h i (List.mem_range.1 hi)]
theorem ints_length (G : Nat → Int) (m : Nat) : (ints G m).length = m := by simp [ints]
theorem add_zero_none (b i : Nat) : (⟨b, 0, none⟩ : Addr).add i = ⟨b, i, none⟩ := by
  simp only [Addr.add]
  split
  · rename_i h; subst h; rfl
  · simp
/-- What is owned reads as a row, in a block from base on. -/
theorem own_row {w : World} {base : Nat} {e : TypeId} {v : Value} {m : Nat} {G : Nat → Int} (h : w.ownsRow base e 1 v m (ints G m)) :
    ∃ A c, v = .slice A m c ∧ m ≤ maxLen ∧ Row w .i64 A m G ∧ (0 < m → ∃ g, A = some ⟨g, 0, none⟩ ∧ base ≤ g ∧ g < w.heap.size ∧ (∀ i, i < m → w.cell? ⟨g, i, none⟩ = some (.int .i64 (G i))) ∧ ∀ i, w.frozen? ⟨g, i, none⟩ = false) := by
  rcases h.2 with ⟨rfl, rfl⟩ | ⟨g, cap, cur, rfl, hg, hh, hn, hc, _, _⟩
  · exact ⟨none, 0, rfl, by simp [maxLen], .inl rfl, fun h => by omega⟩
  · have hlt := (h.lt g rfl).2
    have hcell : ∀ i, i < m → w.cell? ⟨g, i, none⟩ = some (.int .i64 (G i)) := fun i hi => by
      have := h.cells (g := g) rfl i _ (ints_get G hi)
      rwa [add_zero_none] at this
    refine ⟨_, cap, rfl, by omega, .inr ⟨g, 0, rfl, hlt, fun i hi => by simpa using hcell i hi⟩, fun _ => ⟨g, rfl, hg, hlt, hcell, fun i => by simp [World.frozen?, hh]⟩⟩
theorem own_one (w : World) (base : Nat) (e : TypeId) (x : Int) (hb : base ≤ w.heap.size) : (w.alloc (.cells #[.int .i64 x] e)).ownsRow base e 1 (.slice (some ⟨w.heap.size, 0, none⟩) 1 1) 1 [.int .i64 x] :=
  ⟨rfl, .inr ⟨w.heap.size, 1, #[.int .i64 x], rfl, hb, heap_alloc_new w _, Nat.le_refl _, by simp [maxLen], rfl, rfl⟩⟩
theorem own_empty (w : World) (base : Nat) (e : TypeId) (hb : base ≤ w.heap.size) : (w.alloc (.cells #[] e)).ownsRow base e 1 (.slice (some ⟨w.heap.size, 0, none⟩) 0 0) 0 [] :=
  ⟨rfl, .inr ⟨w.heap.size, 0, #[], rfl, hb, heap_alloc_new w _, Nat.le_refl _, by simp [maxLen], rfl, rfl⟩⟩
theorem own_below {w w' : World} {base : Nat} {e : TypeId} {size : Nat} {v : Value} {m : Nat} {xs : List Value} (h : w.ownsRow base e size v m xs) (hb : Below w.heap.size w w') : w'.ownsRow base e size v m xs :=
  h.kept (grown_of_below hb none) (by cases hv : v.ownBlock with
    | none => exact .inl rfl
    | some b => exact .inr (by simp))
theorem own_mono {w : World} {B B' : Nat} {e : TypeId} {size : Nat} {v : Value} {m : Nat} {xs : List Value} (h : w.ownsRow B e size v m xs) (hB : B' ≤ B) : w.ownsRow B' e size v m xs := by
  obtain ⟨h1, h2⟩ := h
  refine ⟨h1, ?_⟩
  rcases h2 with h2 | ⟨g, cap, cur, hv, hg, r⟩
  · exact .inl h2
  · exact .inr ⟨g, cap, cur, hv, by omega, r⟩
theorem apart_lt {v v' : Value} {B : Nat} (h : ∀ b, v.ownBlock = some b → b < B) (h' : ∀ b, v'.ownBlock = some b → B ≤ b) : v.ownBlock = none ∨ v.ownBlock ≠ v'.ownBlock := by
  cases hv : v.ownBlock with
  | none => exact .inl rfl
  | some b =>
    refine .inr fun e => ?_
    have := h b hv
    have := h' b e.symm
    omega
theorem apart_gt {v v' : Value} {B : Nat} (h : ∀ b, v.ownBlock = some b → B ≤ b) (h' : ∀ b, v'.ownBlock = some b → b < B) : v.ownBlock = none ∨ v.ownBlock ≠ v'.ownBlock := by
  cases hv : v.ownBlock with
  | none => exact .inl rfl
  | some b =>
    refine .inr fun e => ?_
    have := h b hv
    have := h' b e.symm
    omega
theorem box_apart_gt {v : Value} {g B : Nat} (h : B ≤ g) (h' : ∀ b, v.ownBlock = some b → b < B) : some g ≠ v.ownBlock := fun e => by
  have := h' g e.symm
  omega
theorem box_apart_lt {v : Value} {g B : Nat} (h : g < B) (h' : ∀ b, v.ownBlock = some b → B ≤ b) : some g ≠ v.ownBlock := fun e => by
  have := h' g e.symm
  omega
theorem below_grown {w0 w w' : World} {v : Value} {B : Nat} (h : Below B w0 w) (hg : w.grownBy w' v.ownBlock) (hB : B ≤ w.heap.size) (hl : ∀ b, v.ownBlock = some b → B ≤ b) : Below B w0 w' := h.grown hg hB hl
theorem own_lo {w : World} {B : Nat} {e : TypeId} {size : Nat} {v : Value} {m : Nat} {xs : List Value} (h : w.ownsRow B e size v m xs) : ∀ b, v.ownBlock = some b → B ≤ b := fun b hb => (h.lt b hb).1
theorem own_hi {w : World} {B : Nat} {e : TypeId} {size : Nat} {v : Value} {m : Nat} {xs : List Value} (h : w.ownsRow B e size v m xs) : ∀ b, v.ownBlock = some b → b < w.heap.size := fun b hb => (h.lt b hb).2
theorem own_rows {w : World} {base : Nat} {e : TypeId} {A : Option Addr} {m c : Nat} {G : Nat → Int} (h : w.ownsRow base e 1 (.slice A m c) m (ints G m)) : Row w .i64 A m G := by
  obtain ⟨A', c', e1, _, hr, _⟩ := own_row h
  cases e1
  exact hr
/-- A new row of numbers comes back: m of them, G 0, G 1, ..; nothing that was there has changed. -/
def IntsQ (m : Nat) (G : Nat → Int) (w : World) (e : Ending) (w' : World) : Prop :=
  ∃ v, e = .returned v ∧ w'.ownsRow w.heap.size 3 1 v m (ints G m) ∧ Below w.heap.size w w'
end Go.Proofs.Ytgfcmeiffhffaaa
