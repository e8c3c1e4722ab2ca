/- Rows of numbers told as lists. -/
import Derived.Test.YtoebibgkpmppdaaOwn
namespace Go.Proofs.Ytoebibgkpmppdaa
open Go.RowKit

theorem ints_list (L : List Int) : ints (fun i => L.getD i 0) L.length = L.map (Value.int .i64) := by
  apply List.ext_getElem?
  intro i
  by_cases h : i < L.length
  · rw [ints_get _ h]
    simp [List.getD_eq_getElem?_getD, h]
  · rw [List.getElem?_eq_none (by simp [ints_length]; omega), List.getElem?_eq_none (by simp; omega)]
/-- A new row of numbers comes back, told as a list. -/
theorem intsQ_list {L : List Int} {w w' : World} {v : Value} (ho : w'.ownsRow w.heap.size 3 1 v L.length (L.map (Value.int .i64))) (hb : Below w.heap.size w w') : IntsQ L.length (fun i => L.getD i 0) w (.returned v) w' :=
  ⟨v, rfl, by rw [ints_list]; exact ho, hb⟩
theorem own_push {w : World} {base : Nat} {e : TypeId} {v : Value} {L : List Int} {x : Int} {m : Nat} (h : w.ownsRow base e 1 v m (L.map (Value.int .i64) ++ [.int .i64 x])) (hm : m = L.length + 1) : w.ownsRow base e 1 v (L ++ [x]).length ((L ++ [x]).map (Value.int .i64)) := by
  subst hm
  simpa using h
theorem own_slice1' {w : World} {base : Nat} {e : TypeId} {v : Value} {n : Nat} {xs : List Value} (h : w.ownsRow base e 1 v n xs) : ∃ A c, v = .slice A n c := by
  rcases h.2 with ⟨rfl, h0⟩ | ⟨g, cap, cur, rfl, _⟩
  · subst h0; exact ⟨_, _, rfl⟩
  · exact ⟨_, _, rfl⟩
theorem own_ints_nil {w : World} {base : Nat} {e : TypeId} {v : Value} {G : Nat → Int} (h : w.ownsRow base e 1 v 0 []) : w.ownsRow base e 1 v 0 (ints G 0) := h
end Go.Proofs.Ytoebibgkpmppdaa
