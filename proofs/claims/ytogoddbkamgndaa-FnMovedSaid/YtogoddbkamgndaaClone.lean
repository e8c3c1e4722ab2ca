/- Contract of slices.Clone at numbers; a store into a row of the call's own. -/
import Derived.Test.YtogoddbkamgndaaOwnSet
import Derived.Shelf.SlicesE.Clone
import Derived.Shelf.SlGeneric
import Derived.Ground.SlgnProg
import Derived.Laws.AppendOwnNone
import Derived.Deep.AppendLies
namespace Go.Proofs.Ytogoddbkamgndaa
open Go.RowKit

shelf_lay_g SlLaysE0.n41 Slgn 41 at Try 64 as Try.clone1

theorem cloneInts_any (A : Option Addr) (n c : Nat) (F : Nat → Int) (w : World) (hn : n ≤ 1048576) (hA : Headed A c) (hr : Row w .i64 A n F) :
    Calls Try.prog 64 #[.slice A n c] w (IntsQ n F w) := by
  obtain ⟨i0, hi0, iz0, iz1, iz2⟩ := info_parts int_inf
  rcases hA with ⟨rfl, rfl⟩ | ⟨b, rfl⟩
  · have h0 : n = 0 := by
      rcases hr with h | ⟨_, _, e, _⟩
      · exact h
      · cases e
    subst h0
    refine (AnyE.slices_Clone_nil Try.clone1 0 0 w).mono ?_
    rintro e w' ⟨rfl, rfl⟩
    exact ⟨_, rfl, World.ownsRow_nil _ _ _ _, Below.refl _ _⟩
  · refine (AnyE.slices_Clone Try.clone1 i0 (.int .i64 0) 1 8 hi0 iz0 iz1 iz2 rfl (by decide) (fun w => Try.sizeOf3 w) b 0 n c (ints F n) w (by simp [ints_length]) (by unfold maxLen; omega) (by omega) ?_ ?_).mono ?_
    · intro j u hj
      have hjn : j < n := by
        rcases Nat.lt_or_ge j n with h | h
        · exact h
        · rw [List.getElem?_eq_none (by simp [ints_length]; omega)] at hj
          cases hj
      rw [ints_get _ hjn] at hj
      cases hj
      rcases hr with h | ⟨b', off, e, hb, hc⟩
      · omega
      · cases e
        exact hc j hjn
    · intro u hu
      simp only [ints, List.mem_map] at hu
      obtain ⟨i, _, rfl⟩ := hu
      rfl
    · rintro e w' ⟨v, rfl, ho, _, hb⟩
      exact ⟨v, rfl, ho, hb⟩
/-- The built-in append of a whole row to an empty row of the call's own, at a step of a region that draws its order. -/
theorem step_append_row {w : World} {ops : Array Oper} {o : Oper} {a : Act} {K : Act → World → Prop} {Q : Exit → Act → World → Prop} {E : Prop} (hgd : o.guard = none) (s x : Operand)
    (ho : o.op = .call { callee := .builtin .append, args := #[s, x], argTypes := #[34, 34] })
    (base : Nat) (v : Value) (hown : w.ownsRow base 3 1 v 0 []) (A : Option Addr) (m c : Nat) (F : Nat → Int) (hA : Headed A c) (hr : Row w .i64 A m F) (hm : m ≤ 1048576) (hbase : base ≤ w.heap.size) (hs : a.eval s = v) (hx : a.eval x = .slice A m c)
    (h : ∀ v' w', w'.ownsRow base 3 1 v' m (ints F m) → w.grownBy w' v.ownBlock → K (a.put o.dst v') w') :
    if Region.wanted o (yielded ops a.tmps) = true then Oper.wp Try.prog o a w K Q else E := by
  have hw : Region.wanted o (yielded ops a.tmps) = true := by simp [Region.wanted, hgd]
  rw [if_pos hw]
  obtain ⟨i0, hi0, iz0, iz1, iz2⟩ := info_parts int_inf
  rcases hA with ⟨rfl, rfl⟩ | ⟨b, rfl⟩
  · have h0 : m = 0 := by
      rcases hr with h | ⟨_, _, e, _⟩
      · exact h
      · cases e
    subst h0
    have hrun := run_append_owned_none (P := Try.prog) (w := w) base 34 o.type 3 i0 1 Try.underlying34 hi0 v 0 [] hown
    have hk := h v w (by simpa [ints] using hown) (grown_refl _ _)
    unfold Oper.wp
    simp [execOp, ho, resolve, invoke, builtin, hs, hx, hrun, Result.andThen]
    exact hk
  · obtain ⟨v', w', hrun, h2, h3, _, _⟩ := run_append_own_at (P := Try.prog) w base 34 o.type 3 i0 (.int .i64 0) 1 8 Try.underlying34 hi0 iz0 iz1 iz2 rfl (by decide) v 0 [] hown ⟨b, 0, none⟩ m c (ints F m) (by simp [ints_length]) (by
      intro j u hj
      have hjn : j < m := by
        rcases Nat.lt_or_ge j m with h | h
        · exact h
        · rw [List.getElem?_eq_none (by simp [ints_length]; omega)] at hj
          cases hj
      rw [ints_get _ hjn] at hj
      cases hj
      rw [add_zero_none]
      rcases hr with h | ⟨b', off, e, hb, hc⟩
      · omega
      · cases e
        have := hc j hjn
        simpa using this) (by
      intro u hu
      simp only [ints, List.mem_map] at hu
      obtain ⟨i, _, rfl⟩ := hu
      rfl) (by unfold maxLen; omega) (by omega) hbase
    have hk := h v' w' (by simpa using h2) h3
    unfold Oper.wp execOp
    simp only [ho, resolve, invoke, builtin, Sem.run_bind, Sem.run_pure, Result.andThen_ok, List.map_toArray, List.map_cons, List.map_nil, hs, hx, hrun]
    exact hk
end Go.Proofs.Ytogoddbkamgndaa
