/- Books of rules that lie in rows of their own. -/
import Derived.Test.YtgfcmeiffhffaaaJRuleFor
import Derived.Test.YtgfcmeiffhffaaaJDrawF
import Derived.Test.YtgfcmeiffhffaaaJVApp
import Derived.Test.YtgfcmeiffhffaaaJCopyB
namespace Go.Proofs.Ytgfcmeiffhffaaa
open Go.RowKit

theorem own_own_ne {w : World} {base e size n} {v : Value} {xs : List Value} {base' e' size' n'} {v' : Value} {xs' : List Value} (h : w.ownsRow base e size v n xs) (h' : w.ownsRow base' e' size' v' n' xs') (hne : e ≠ e') : v.ownBlock = none ∨ v.ownBlock ≠ v'.ownBlock := by
  rcases h.2 with ⟨rfl, _⟩ | ⟨g, cap, cur, rfl, _, hh, _⟩
  · exact .inl rfl
  · rcases h'.2 with ⟨rfl, _⟩ | ⟨g', cap', cur', rfl, _, hh', _⟩
    · exact .inr (by simp [Value.ownBlock])
    · refine .inr fun he => ?_
      obtain rfl : g = g' := by simpa [Value.ownBlock] using he
      rw [hh] at hh'
      injection hh' with hh'
      injection hh' with _ ht
      exact hne ht
theorem recV_congr {V V' : Nat → Nat → Value} {k n : Nat} (h : ∀ i, i < n → ∀ j, j < k → V i j = V' i j) : recV V k n = recV V' k n := by
  apply List.ext_getElem?
  intro m
  by_cases hm : m < n * k
  · have hk : 0 < k := by
      rcases Nat.eq_zero_or_pos k with h0 | h0
      · subst h0; simp at hm
      · exact h0
    rw [recV_get' _ hm, recV_get' _ hm, h _ (Nat.div_lt_of_lt_mul (by rwa [Nat.mul_comm])) _ (Nat.mod_lt _ hk)]
  · rw [List.getElem?_eq_none (by rw [recV_length]; omega), List.getElem?_eq_none (by rw [recV_length]; omega)]
theorem box_ne_own {w : World} {b : Nat} {t : TypeId} {cs : Array Value} (hx : Box w b t cs) {base e size n} {v : Value} {xs : List Value} (h : w.ownsRow base e size v n xs) (hne : e ≠ t) : some b ≠ v.ownBlock := fun he => own_box_ne h hx hne he.symm
theorem own_cap {w : World} {base : Nat} {e : TypeId} {k : Nat} {A : Option Addr} {m c : Nat} {xs : List Value} (h : w.ownsRow base e k (.slice A m c) m xs) : m ≤ c := by
  rcases h.2 with ⟨h1, h0⟩ | ⟨g, cap, cur, hv, _, _, hn, _⟩
  · cases h1; exact Nat.le_refl _
  · cases hv; exact hn
/-- n rules in a row of the call's own, each with a row of nodes of the call's own. -/
structure OwnRules (w : World) (base : Nat) (A : Option Addr) (n c : Nat) (R : Nat → Nat → Int) (NA : Nat → Option Addr) (Nn Nc : Nat → Nat) (NF : Nat → Nat → Nat → Int) : Prop where
  row : w.ownsRow base 119 7 (.slice A n c) n (recV (ruleV R NA Nn Nc) 7 n)
  nodes : ∀ i, i < n → w.ownsRow base 175 6 (.slice (NA i) (Nn i) (Nc i)) (Nn i) (recs (NF i) 6 (Nn i))
  small : ∀ i, i < n → Nn i ≤ 7
section
variable {w w' : World} {base : Nat} {A : Option Addr} {n c : Nat} {R : Nat → Nat → Int} {NA : Nat → Option Addr} {Nn Nc : Nat → Nat} {NF : Nat → Nat → Nat → Int}
theorem OwnRules.rules (h : OwnRules w base A n c R NA Nn Nc NF) : Rules w A n R NA Nn Nc NF :=
  ⟨own_recv h.row, fun i hi => own_rec (h.nodes i hi), fun i hi => Nat.le_trans (h.small i hi) (by decide)⟩
theorem OwnRules.any (h : OwnRules w base A n c R NA Nn Nc NF) : ∀ i, i < n → AnyA (NA i) (Nc i) := fun i hi => own_anyA (h.nodes i hi)
theorem OwnRules.below (h : OwnRules w base A n c R NA Nn Nc NF) (hb : Below w.heap.size w w') : OwnRules w' base A n c R NA Nn Nc NF :=
  ⟨own_below h.row hb, fun i hi => own_below (h.nodes i hi) hb, h.small⟩
theorem OwnRules.alloc (h : OwnRules w base A n c R NA Nn Nc NF) (o : Obj) : OwnRules (w.alloc o) base A n c R NA Nn Nc NF := h.below ((Below.refl _ _).alloc (Nat.le_refl _) o)
theorem OwnRules.mono {B' : Nat} (h : OwnRules w base A n c R NA Nn Nc NF) (hB : B' ≤ base) : OwnRules w B' A n c R NA Nn Nc NF :=
  ⟨own_mono h.row hB, fun i hi => own_mono (h.nodes i hi) hB, h.small⟩
theorem OwnRules.cur {B g : Nat} (h : OwnRules w base A n c R NA Nn Nc NF) (hc : CurOk B w g) (hg : w.grownBy w' (some g)) : OwnRules w' base A n c R NA Nn Nc NF :=
  ⟨h.row.kept hg (.inr (hc.own_ne h.row (by decide))), fun i hi => (h.nodes i hi).kept hg (.inr (hc.own_ne (h.nodes i hi) (by decide))), h.small⟩
theorem OwnRules.box {b : Nat} (h : OwnRules w base A n c R NA Nn Nc NF) (hg : w.grownBy w' (some b)) (hb : b < base) : OwnRules w' base A n c R NA Nn Nc NF :=
  ⟨h.row.kept hg (.inr (fun e => by have := own_lo h.row _ e; omega)), fun i hi => (h.nodes i hi).kept hg (.inr (fun e => by have := own_lo (h.nodes i hi) _ e; omega)), h.small⟩
theorem OwnRules.boxT {b : Nat} {t : TypeId} {cs : Array Value} (h : OwnRules w base A n c R NA Nn Nc NF) (hg : w.grownBy w' (some b)) (hx : Box w b t cs) (h1 : 119 ≠ t) (h2 : 175 ≠ t) : OwnRules w' base A n c R NA Nn Nc NF :=
  ⟨h.row.kept hg (.inr (own_box_ne h.row hx h1)), fun i hi => (h.nodes i hi).kept hg (.inr (own_box_ne (h.nodes i hi) hx h2)), h.small⟩
theorem OwnRules.congr {R' : Nat → Nat → Int} {Nn' : Nat → Nat} {NF' : Nat → Nat → Nat → Int} (h : OwnRules w base A n c R NA Nn Nc NF) (hR : ∀ i, i < n → ∀ j, j < 6 → R i j = R' i j) (hN : ∀ i, i < n → Nn i = Nn' i) (hF : ∀ i, i < n → NF i = NF' i) : OwnRules w base A n c R' NA Nn' Nc NF' := by
  refine ⟨?_, fun i hi => ?_, fun i hi => by rw [← hN i hi]; exact h.small i hi⟩
  · rw [recV_congr (V' := ruleV R NA Nn Nc)]
    · exact h.row
    · intro i hi j hj
      rcases (show j = 0 ∨ j = 1 ∨ j = 2 ∨ j = 3 ∨ j = 4 ∨ j = 5 ∨ j = 6 by omega) with rfl | rfl | rfl | rfl | rfl | rfl | rfl
      all_goals simp only [ruleV, hN i hi]
      all_goals rw [hR i hi _ (by omega)]
  · rw [← hN i hi, ← hF i hi]
    exact h.nodes i hi
/-- One record of a rule. -/
def ruleX (r0 r1 r2 r3 r4 r5 : Int) (A : Option Addr) (n c : Nat) : Nat → Value
  | 0 => .int .i64 r0
  | 1 => .int .i64 r1
  | 2 => .int .i64 r2
  | 3 => .int .i64 r3
  | 4 => .int .i64 r4
  | 5 => .int .i64 r5
  | _ => .slice A n c
def six (r0 r1 r2 r3 r4 r5 : Int) : Nat → Int
  | 0 => r0
  | 1 => r1
  | 2 => r2
  | 3 => r3
  | 4 => r4
  | _ => r5
/-- The functions with one more at n. -/
def more {α : Type} (f : Nat → α) (n : Nat) (x : α) : Nat → α := fun i => if i < n then f i else x
theorem rule_cat (R : Nat → Nat → Int) (NA : Nat → Option Addr) (Nn Nc : Nat → Nat) (n : Nat) (r0 r1 r2 r3 r4 r5 : Int) (XA : Option Addr) (xn xc : Nat) : catV (ruleV R NA Nn Nc) n (ruleX r0 r1 r2 r3 r4 r5 XA xn xc) = ruleV (more R n (six r0 r1 r2 r3 r4 r5)) (more NA n XA) (more Nn n xn) (more Nc n xc) := by
  funext i j
  unfold catV more
  by_cases h : i < n
  · rw [if_pos h]
    match j with
    | 0 => simp only [ruleV, if_pos h]
    | 1 => simp only [ruleV, if_pos h]
    | 2 => simp only [ruleV, if_pos h]
    | 3 => simp only [ruleV, if_pos h]
    | 4 => simp only [ruleV, if_pos h]
    | 5 => simp only [ruleV, if_pos h]
    | j + 6 => simp only [ruleV, if_pos h]
  · rw [if_neg h]
    match j with
    | 0 => simp only [ruleV, ruleX, if_neg h]; rfl
    | 1 => simp only [ruleV, ruleX, if_neg h]; rfl
    | 2 => simp only [ruleV, ruleX, if_neg h]; rfl
    | 3 => simp only [ruleV, ruleX, if_neg h]; rfl
    | 4 => simp only [ruleV, ruleX, if_neg h]; rfl
    | 5 => simp only [ruleV, ruleX, if_neg h]; rfl
    | j + 6 => simp only [ruleV, ruleX, if_neg h]
/-- One rule more. -/
theorem OwnRules.snoc (h : OwnRules w base A n c R NA Nn Nc NF) (hg : w.grownBy w' (Value.slice A n c).ownBlock) {A' : Option Addr} {c' : Nat} {r0 r1 r2 r3 r4 r5 : Int} {XA : Option Addr} {xn xc : Nat} {XF : Nat → Nat → Int}
    (hr : w'.ownsRow base 119 7 (.slice A' (n + 1) c') (n + 1) (recV (catV (ruleV R NA Nn Nc) n (ruleX r0 r1 r2 r3 r4 r5 XA xn xc)) 7 (n + 1)))
    (hx : w.ownsRow base 175 6 (.slice XA xn xc) xn (recs XF 6 xn)) (hxn : xn ≤ 7) :
    OwnRules w' base A' (n + 1) c' (more R n (six r0 r1 r2 r3 r4 r5)) (more NA n XA) (more Nn n xn) (more Nc n xc) (more NF n XF) := by
  refine ⟨by rw [← rule_cat]; exact hr, fun i hi => ?_, fun i hi => ?_⟩
  · unfold more
    by_cases hin : i < n
    · rw [if_pos hin, if_pos hin, if_pos hin, if_pos hin]
      exact (h.nodes i hin).kept hg (own_own_ne (h.nodes i hin) h.row (by decide))
    · rw [if_neg hin, if_neg hin, if_neg hin, if_neg hin]
      exact hx.kept hg (own_own_ne hx h.row (by decide))
  · unfold more
    split
    · exact h.small i (by assumption)
    · exact hxn
end
theorem own_rules_nil (w : World) (base : Nat) (R : Nat → Nat → Int) (NA : Nat → Option Addr) (Nn Nc : Nat → Nat) (NF : Nat → Nat → Nat → Int) : OwnRules w base none 0 0 R NA Nn Nc NF :=
  ⟨World.ownsRow_nil _ _ _ _, fun i hi => by omega, fun i hi => by omega⟩
theorem infRule : (Try.prog.info? 119).map (fun i => (i.zero, i.size, i.bytes)) = some (some (.agg #[.int .i64 0, .int .i64 0, .int .i64 0, .int .i64 0, .int .i64 0, .int .i64 0, .slice none 0 0]), 7, 72) := by kernel_rfl
end Go.Proofs.Ytgfcmeiffhffaaa
