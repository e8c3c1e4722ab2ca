/-
  No cell of these rows narrows 'for every input' (looked for: loops, veiled, ifaces, maps, wideKeys, modest, calm, conditions, laid).
  DERIVED. THE GIVEN ROWS OF THIS SEAT. 3 by the template 'for every input the law returns true; each argument reads behind the call as it read before'; 0 by the template 'total and deterministic' (their statements: YtgfcmeiffhffaaaTotals.lean).
  GIVEN WITH THE SEED: the statements are not yours to turn. If you find one false, say at which input.
  Laid BY PROGRAM, IN A SANDBOX (cutbox-rows.mjs): the forced cells as the released guide's own fill.sh prints them over the translation 20713f7df545b8b8… (all of the seat's roots in one cut). By AI agents, Wed Nov 11 2026. No macro, syntax, notation, axiom, sorry.
-/
import Derived.Test.YtgfcmeiffhffaaaChecked
import GoSem.Claim
import GoSem.ClaimJoined
import GoSem.ClaimMapViews
import Derived.JoinedTies
import Derived.KernelRfl
namespace Go.Proofs.Ytgfcmeiffhffaaa
/- THE CELL 'sum', in the pinned program and in every row, IS THE sha256 OF THE DUMP (.gsa) THAT YtgfcmeiffhffaaaProg.lean LOADS. Nothing in Lean hashes anything: it is a label: what it is worth is what the hold of that sum in a sandbox is worth. -/
noncomputable def Try.pinned : Pinned := { name := "ytgfcmeiffhffaaa", sum := "20713f7df545b8b8b29820e538af89ddaa43056e9cbd2af99cef90b91d0a0e3c", checked := Try.checked }
namespace Rows
def none {H : Type} : Left H := { results := [], args := [] }

/-- 'laws.FnExactMemberOk': WHATEVER THE INPUT: true; the input reads as it did. -/
def fnExactMemberOkSpec : ChangeSpec := { name := "fnExactMemberOk", fn := fun _ => fun
  | [d] => { results := [.lit (.bool true)], args := [d] }
  | _ => none }
def fnExactMemberOkRow : OpenClaim := { program := "ytgfcmeiffhffaaa", sum := "20713f7df545b8b8b29820e538af89ddaa43056e9cbd2af99cef90b91d0a0e3c", func := "loop.example/g00980/laws.FnExactMemberOk", spec := "fnExactMemberOk", apart := false }
def FnExactMemberOkSaid : Prop := fnExactMemberOkRow.holds Try.pinned (OpenSpec.ofChange fnExactMemberOkSpec)

/-- ITS FALSE NEIGHBOUR: 'it returns false'. Refute it at one input. -/
def fnExactMemberOkWrong : ChangeSpec := { name := "fnExactMemberOk", fn := fun _ => fun
  | [d] => { results := [.lit (.bool false)], args := [d] }
  | _ => none }
def FnExactMemberOkWrongFalsely : Prop := fnExactMemberOkRow.holds Try.pinned (OpenSpec.ofChange fnExactMemberOkWrong)

/-- 'laws.FnExactCaseOk': WHATEVER THE INPUT: true; the input reads as it did. -/
def fnExactCaseOkSpec : ChangeSpec := { name := "fnExactCaseOk", fn := fun _ => fun
  | [d] => { results := [.lit (.bool true)], args := [d] }
  | _ => none }
def fnExactCaseOkRow : OpenClaim := { program := "ytgfcmeiffhffaaa", sum := "20713f7df545b8b8b29820e538af89ddaa43056e9cbd2af99cef90b91d0a0e3c", func := "loop.example/g00980/laws.FnExactCaseOk", spec := "fnExactCaseOk", apart := false }
def FnExactCaseOkSaid : Prop := fnExactCaseOkRow.holds Try.pinned (OpenSpec.ofChange fnExactCaseOkSpec)

/-- ITS FALSE NEIGHBOUR: 'it returns false'. Refute it at one input. -/
def fnExactCaseOkWrong : ChangeSpec := { name := "fnExactCaseOk", fn := fun _ => fun
  | [d] => { results := [.lit (.bool false)], args := [d] }
  | _ => none }
def FnExactCaseOkWrongFalsely : Prop := fnExactCaseOkRow.holds Try.pinned (OpenSpec.ofChange fnExactCaseOkWrong)

/-- 'laws.FnEntitlementLists': WHATEVER THE INPUT: true; the input reads as it did. -/
def fnEntitlementListsSpec : ChangeSpec := { name := "fnEntitlementLists", fn := fun _ => fun
  | [d] => { results := [.lit (.bool true)], args := [d] }
  | _ => none }
def fnEntitlementListsRow : OpenClaim := { program := "ytgfcmeiffhffaaa", sum := "20713f7df545b8b8b29820e538af89ddaa43056e9cbd2af99cef90b91d0a0e3c", func := "loop.example/g00980/laws.FnEntitlementLists", spec := "fnEntitlementLists", unfollowed := true, recurses := true, apart := false }
def FnEntitlementListsSaid : Prop := fnEntitlementListsRow.holds Try.pinned (OpenSpec.ofChange fnEntitlementListsSpec)

/-- ITS FALSE NEIGHBOUR: 'it returns false'. Refute it at one input. -/
def fnEntitlementListsWrong : ChangeSpec := { name := "fnEntitlementLists", fn := fun _ => fun
  | [d] => { results := [.lit (.bool false)], args := [d] }
  | _ => none }
def FnEntitlementListsWrongFalsely : Prop := fnEntitlementListsRow.holds Try.pinned (OpenSpec.ofChange fnEntitlementListsWrong)

/- THE SECOND FORM. 'bulk': how many values and letters a reading holds, each counted each time it is reached (what is shared counts as often as it is met; a slice's spare places count too). A statement '..UptoSaid' is the law's where the arguments, and the package variables that the reading takes, are together of bulk at most 1048576: NARROWER than '..Said'. Prove '..Said' where nothing that the law and all that it calls make is longer than what came in: it says more and counts as full. Else prove '..UptoSaid'. A law counts once. -/
mutual
def uptoBulk {H : Type} : DataW H → Nat
  | .lit (.string bytes) => bytes.length + 1
  | .lit _ => 1
  | .nil => 1
  | .ptr d => uptoBulk d + 1
  | .slice elems spare => uptoBulkAll elems + uptoBulkAll spare + 1
  | .agg parts => uptoBulkAll parts + 1
  | .iface _ d => uptoBulk d + 1
  | .map entries => uptoBulkEntries entries + 1
  | .held _ => 1
def uptoBulkAll {H : Type} : List (DataW H) → Nat
  | [] => 0
  | d :: r => uptoBulk d + uptoBulkAll r
def uptoBulkEntries {H : Type} : List (Lit × DataW H) → Nat
  | [] => 0
  | x :: r => uptoBulkEntry x + uptoBulkEntries r
def uptoBulkEntry {H : Type} : Lit × DataW H → Nat
  | (.string bytes, d) => bytes.length + uptoBulk d + 1
  | (_, d) => uptoBulk d + 1
 end
def uptoSmall : (H : Type) → List (DataW H) → Bool := fun _ ds => decide (uptoBulkAll ds ≤ 1048576)
def OpenSpec.upto (s : _root_.Go.ChangeSpec) : _root_.Go.OpenSpec := { _root_.Go.OpenSpec.ofChange s with cond := some uptoSmall }

/-- 'laws.FnExactMemberOk', WHERE WHAT IT READS IS OF BULK AT MOST 1048576: true; the input reads as it did. -/
def fnExactMemberOkUptoRow : OpenClaim := { program := "ytgfcmeiffhffaaa", sum := "20713f7df545b8b8b29820e538af89ddaa43056e9cbd2af99cef90b91d0a0e3c", func := "loop.example/g00980/laws.FnExactMemberOk", spec := "fnExactMemberOk", apart := false, narrowed := true }
def FnExactMemberOkUptoSaid : Prop := fnExactMemberOkUptoRow.holds Try.pinned (OpenSpec.upto fnExactMemberOkSpec)

/-- 'laws.FnExactCaseOk', WHERE WHAT IT READS IS OF BULK AT MOST 1048576: true; the input reads as it did. -/
def fnExactCaseOkUptoRow : OpenClaim := { program := "ytgfcmeiffhffaaa", sum := "20713f7df545b8b8b29820e538af89ddaa43056e9cbd2af99cef90b91d0a0e3c", func := "loop.example/g00980/laws.FnExactCaseOk", spec := "fnExactCaseOk", apart := false, narrowed := true }
def FnExactCaseOkUptoSaid : Prop := fnExactCaseOkUptoRow.holds Try.pinned (OpenSpec.upto fnExactCaseOkSpec)

/-- 'laws.FnEntitlementLists', WHERE WHAT IT READS IS OF BULK AT MOST 1048576: true; the input reads as it did. -/
def fnEntitlementListsUptoRow : OpenClaim := { program := "ytgfcmeiffhffaaa", sum := "20713f7df545b8b8b29820e538af89ddaa43056e9cbd2af99cef90b91d0a0e3c", func := "loop.example/g00980/laws.FnEntitlementLists", spec := "fnEntitlementLists", unfollowed := true, recurses := true, apart := false, narrowed := true }
def FnEntitlementListsUptoSaid : Prop := fnEntitlementListsUptoRow.holds Try.pinned (OpenSpec.upto fnEntitlementListsSpec)

end Rows
end Go.Proofs.Ytgfcmeiffhffaaa
