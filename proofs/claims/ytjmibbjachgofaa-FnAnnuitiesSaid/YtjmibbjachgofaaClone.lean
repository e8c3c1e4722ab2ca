/- Contract of slices.Clone at numbers; a store into a row of the call's own. -/
import Derived.Test.YtjmibbjachgofaaOwn
import Derived.Shelf.SlicesE.Clone
import Derived.Shelf.SlGeneric
import Derived.Ground.SlgnProg
import Derived.Laws.AppendOwnNone
import Derived.Deep.AppendLies
namespace Go.Proofs.Ytjmibbjachgofaa
open Go.RowKit

shelf_lay_g SlLaysE0.n41 Slgn 41 at Try 60 as Try.clone1

theorem own_set {w : World} {base : Nat} {e : TypeId} {g n c : Nat} {F : Nat → Int} (h : w.ownsRow base e 1 (.slice (some ⟨g, 0, none⟩) n c) n (ints F n)) {k : Nat} (hk : k < n) (x : Int) :
    (w.setCell ⟨g, k, none⟩ (.int .i64 x)).ownsRow base e 1 (.slice (some ⟨g, 0, none⟩) n c) n (ints (fun i => if i = k then x else F i) n) := by
  rcases h with ⟨hl, ⟨h1, _⟩ | ⟨g', cap, cur, hv, hg, hh, hnc, hcm, hcs, hx⟩⟩
  · cases h1
  · cases hv
    refine ⟨by simp [ints_length], .inr ⟨g, c, cur.setIfInBounds k (.int .i64 x), rfl, hg, (show Box w g e cur from hh).put k _, hnc, hcm, by simpa using hcs, ?_⟩⟩
    have hx' : ints F n = cur.toList.take (n * 1) := by first | exact hx | exact hx.symm
    first
    | (apply List.ext_getElem?
       intro i
       by_cases hi : i < n
       · rw [ints_get _ hi, Nat.mul_one, List.getElem?_take_of_lt hi]
         by_cases hik : i = k
         · subst hik
           simp only [if_pos]
           rw [Array.getElem?_toList, Array.getElem?_setIfInBounds_self_of_lt (by omega)]
         · rw [if_neg hik, Array.getElem?_toList, Array.getElem?_setIfInBounds_ne (by omega)]
           have := congrArg (fun l => l[i]?) hx'
           simp only [Nat.mul_one] at this
           rw [ints_get _ hi, List.getElem?_take_of_lt hi, Array.getElem?_toList] at this
           exact this
       · rw [List.getElem?_eq_none (by simp [ints_length]; omega), List.getElem?_eq_none (by simp; omega)])
    | (apply List.ext_getElem?
       intro i
       by_cases hi : i < n
       · rw [ints_get _ hi, Nat.mul_one, List.getElem?_take_of_lt hi]
         by_cases hik : i = k
         · subst hik
           simp only [if_pos]
           rw [Array.getElem?_toList, Array.getElem?_setIfInBounds_self_of_lt (by omega)]
         · rw [if_neg hik, Array.getElem?_toList, Array.getElem?_setIfInBounds_ne (by omega)]
           have := congrArg (fun l => l[i]?) hx'
           simp only [Nat.mul_one] at this
           rw [ints_get _ hi, List.getElem?_take_of_lt hi, Array.getElem?_toList] at this
           exact this.symm
       · rw [List.getElem?_eq_none (by simp; omega), List.getElem?_eq_none (by simp [ints_length]; omega)])

theorem own_setBox {w : World} {base : Nat} {e : TypeId} {v : Value} {n : Nat} {xs : List Value} {g : Nat} {t : TypeId} {cs : Array Value} (h : w.ownsRow base e 1 v n xs) (hx : Box w g t cs) (hne : e ≠ t) (i : Nat) (u : Value) : (w.setCell ⟨g, i, none⟩ u).ownsRow base e 1 v n xs :=
  h.kept (grown_set (grown_refl w (some g)) _ _) (.inr (own_box_ne h hx hne))
theorem own_congr {w : World} {base : Nat} {e : TypeId} {v : Value} {n : Nat} {F G : Nat → Int} (h : w.ownsRow base e 1 v n (ints F n)) (hFG : ∀ i, i < n → F i = G i) : w.ownsRow base e 1 v n (ints G n) := by
  rw [← ints_congr hFG]; exact h
/-- The address of a row that a call has made: none, or the head of a block. -/
def Headed (A : Option Addr) (c : Nat) : Prop := (A = none ∧ c = 0) ∨ ∃ b, A = some ⟨b, 0, none⟩
theorem own_headed {w : World} {base : Nat} {e : TypeId} {A : Option Addr} {m c : Nat} {xs : List Value} (h : w.ownsRow base e 1 (.slice A m c) m xs) : Headed A c := by
  rcases h.2 with ⟨h1, _⟩ | ⟨g, cap, cur, hv, _⟩
  · cases h1; exact .inl ⟨rfl, rfl⟩
  · cases hv; exact .inr ⟨g, rfl⟩
theorem cloneInts_any (A : Option Addr) (n c : Nat) (F : Nat → Int) (w : World) (hn : n ≤ 1048576) (hA : Headed A c) (hr : Row w .i64 A n F) :
    Calls Try.prog 60 #[.slice A n c] w (IntsQ n F w) := by
  obtain ⟨i0, hi0, iz0, iz1, iz2⟩ := info_parts int_inf
  rcases hA with ⟨rfl, rfl⟩ | ⟨b, rfl⟩
  · have h0 : n = 0 := by
      rcases hr with h | ⟨_, _, e, _⟩
      · exact h
      · cases e
    subst h0
    refine (AnyE.slices_Clone_nil Try.clone1 0 0 w).mono ?_
    rintro e w' ⟨rfl, rfl⟩
    exact ⟨_, rfl, World.ownsRow_nil _ _ _ _, Below.refl _ _⟩
  · refine (AnyE.slices_Clone Try.clone1 i0 (.int .i64 0) 1 8 hi0 iz0 iz1 iz2 rfl (by decide) (fun w => Try.sizeOf3 w) b 0 n c (ints F n) w (by simp [ints_length]) (by unfold maxLen; omega) (by omega) ?_ ?_).mono ?_
    · intro j u hj
      have hjn : j < n := by
        rcases Nat.lt_or_ge j n with h | h
        · exact h
        · rw [List.getElem?_eq_none (by simp [ints_length]; omega)] at hj
          cases hj
      rw [ints_get _ hjn] at hj
      cases hj
      rcases hr with h | ⟨b', off, e, hb, hc⟩
      · omega
      · cases e
        exact hc j hjn
    · intro u hu
      simp only [ints, List.mem_map] at hu
      obtain ⟨i, _, rfl⟩ := hu
      rfl
    · rintro e w' ⟨v, rfl, ho, _, hb⟩
      exact ⟨v, rfl, ho, hb⟩
/-- The built-in append of a whole row to an empty row of the call's own, at a step of a region that draws its order. -/
theorem step_append_row {w : World} {ops : Array Oper} {o : Oper} {a : Act} {K : Act → World → Prop} {Q : Exit → Act → World → Prop} {E : Prop} (hgd : o.guard = none) (s x : Operand)
    (ho : o.op = .call { callee := .builtin .append, args := #[s, x], argTypes := #[24, 24] })
    (base : Nat) (v : Value) (hown : w.ownsRow base 3 1 v 0 []) (A : Option Addr) (m c : Nat) (F : Nat → Int) (hA : Headed A c) (hr : Row w .i64 A m F) (hm : m ≤ 1048576) (hbase : base ≤ w.heap.size) (hs : a.eval s = v) (hx : a.eval x = .slice A m c)
    (h : ∀ v' w', w'.ownsRow base 3 1 v' m (ints F m) → w.grownBy w' v.ownBlock → K (a.put o.dst v') w') :
    if Region.wanted o (yielded ops a.tmps) = true then Oper.wp Try.prog o a w K Q else E := by
  have hw : Region.wanted o (yielded ops a.tmps) = true := by simp [Region.wanted, hgd]
  rw [if_pos hw]
  obtain ⟨i0, hi0, iz0, iz1, iz2⟩ := info_parts int_inf
  rcases hA with ⟨rfl, rfl⟩ | ⟨b, rfl⟩
  · have h0 : m = 0 := by
      rcases hr with h | ⟨_, _, e, _⟩
      · exact h
      · cases e
    subst h0
    have hrun := run_append_owned_none (P := Try.prog) (w := w) base 24 o.type 3 i0 1 Try.underlying24 hi0 v 0 [] hown
    have hk := h v w (by simpa [ints] using hown) (grown_refl _ _)
    unfold Oper.wp
    simp [execOp, ho, resolve, invoke, builtin, hs, hx, hrun, Result.andThen]
    exact hk
  · obtain ⟨v', w', hrun, h2, h3, _, _⟩ := run_append_own_at (P := Try.prog) w base 24 o.type 3 i0 (.int .i64 0) 1 8 Try.underlying24 hi0 iz0 iz1 iz2 rfl (by decide) v 0 [] hown ⟨b, 0, none⟩ m c (ints F m) (by simp [ints_length]) (by
      intro j u hj
      have hjn : j < m := by
        rcases Nat.lt_or_ge j m with h | h
        · exact h
        · rw [List.getElem?_eq_none (by simp [ints_length]; omega)] at hj
          cases hj
      rw [ints_get _ hjn] at hj
      cases hj
      rw [add_zero_none]
      rcases hr with h | ⟨b', off, e, hb, hc⟩
      · omega
      · cases e
        have := hc j hjn
        simpa using this) (by
      intro u hu
      simp only [ints, List.mem_map] at hu
      obtain ⟨i, _, rfl⟩ := hu
      rfl) (by unfold maxLen; omega) (by omega) hbase
    have hk := h v' w' (by simpa using h2) h3
    unfold Oper.wp execOp
    simp only [ho, resolve, invoke, builtin, Sem.run_bind, Sem.run_pure, Result.andThen_ok, List.map_toArray, List.map_cons, List.map_nil, hs, hx, hrun]
    exact hk
end Go.Proofs.Ytjmibbjachgofaa
