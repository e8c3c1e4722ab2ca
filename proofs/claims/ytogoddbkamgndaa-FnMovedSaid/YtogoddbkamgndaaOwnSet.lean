/- A store into a row of the call's own. -/
import Derived.Test.YtogoddbkamgndaaOwn
namespace Go.Proofs.Ytogoddbkamgndaa
open Go.RowKit

theorem own_set {w : World} {base : Nat} {e : TypeId} {g n c : Nat} {F : Nat → Int} (h : w.ownsRow base e 1 (.slice (some ⟨g, 0, none⟩) n c) n (ints F n)) {k : Nat} (hk : k < n) (x : Int) :
    (w.setCell ⟨g, k, none⟩ (.int .i64 x)).ownsRow base e 1 (.slice (some ⟨g, 0, none⟩) n c) n (ints (fun i => if i = k then x else F i) n) := by
  rcases h with ⟨hl, ⟨h1, _⟩ | ⟨g', cap, cur, hv, hg, hh, hnc, hcm, hcs, hx⟩⟩
  · cases h1
  · cases hv
    refine ⟨by simp [ints_length], .inr ⟨g, c, cur.setIfInBounds k (.int .i64 x), rfl, hg, (show Box w g e cur from hh).put k _, hnc, hcm, by simpa using hcs, ?_⟩⟩
    have hx' : ints F n = cur.toList.take (n * 1) := by first | exact hx | exact hx.symm
    first
    | (apply List.ext_getElem?
       intro i
       by_cases hi : i < n
       · rw [ints_get _ hi, Nat.mul_one, List.getElem?_take_of_lt hi]
         by_cases hik : i = k
         · subst hik
           simp only [if_pos]
           rw [Array.getElem?_toList, Array.getElem?_setIfInBounds_self_of_lt (by omega)]
         · rw [if_neg hik, Array.getElem?_toList, Array.getElem?_setIfInBounds_ne (by omega)]
           have := congrArg (fun l => l[i]?) hx'
           simp only [Nat.mul_one] at this
           rw [ints_get _ hi, List.getElem?_take_of_lt hi, Array.getElem?_toList] at this
           exact this
       · rw [List.getElem?_eq_none (by simp [ints_length]; omega), List.getElem?_eq_none (by simp; omega)])
    | (apply List.ext_getElem?
       intro i
       by_cases hi : i < n
       · rw [ints_get _ hi, Nat.mul_one, List.getElem?_take_of_lt hi]
         by_cases hik : i = k
         · subst hik
           simp only [if_pos]
           rw [Array.getElem?_toList, Array.getElem?_setIfInBounds_self_of_lt (by omega)]
         · rw [if_neg hik, Array.getElem?_toList, Array.getElem?_setIfInBounds_ne (by omega)]
           have := congrArg (fun l => l[i]?) hx'
           simp only [Nat.mul_one] at this
           rw [ints_get _ hi, List.getElem?_take_of_lt hi, Array.getElem?_toList] at this
           exact this.symm
       · rw [List.getElem?_eq_none (by simp; omega), List.getElem?_eq_none (by simp [ints_length]; omega)])

theorem own_setBox {w : World} {base : Nat} {e : TypeId} {v : Value} {n : Nat} {xs : List Value} {g : Nat} {t : TypeId} {cs : Array Value} (h : w.ownsRow base e 1 v n xs) (hx : Box w g t cs) (hne : e ≠ t) (i : Nat) (u : Value) : (w.setCell ⟨g, i, none⟩ u).ownsRow base e 1 v n xs :=
  h.kept (grown_set (grown_refl w (some g)) _ _) (.inr (own_box_ne h hx hne))
theorem own_congr {w : World} {base : Nat} {e : TypeId} {v : Value} {n : Nat} {F G : Nat → Int} (h : w.ownsRow base e 1 v n (ints F n)) (hFG : ∀ i, i < n → F i = G i) : w.ownsRow base e 1 v n (ints G n) := by
  rw [← ints_congr hFG]; exact h
/-- The address of a row that a call has made: none, or the head of a block. -/
def Headed (A : Option Addr) (c : Nat) : Prop := (A = none ∧ c = 0) ∨ ∃ b, A = some ⟨b, 0, none⟩
theorem own_headed {w : World} {base : Nat} {e : TypeId} {A : Option Addr} {m c : Nat} {xs : List Value} (h : w.ownsRow base e 1 (.slice A m c) m xs) : Headed A c := by
  rcases h.2 with ⟨h1, _⟩ | ⟨g, cap, cur, hv, _⟩
  · cases h1; exact .inl ⟨rfl, rfl⟩
  · cases hv; exact .inr ⟨g, rfl⟩
end Go.Proofs.Ytogoddbkamgndaa
