/-
  No cell of these rows narrows 'for every input' (looked for: loops, veiled, ifaces, maps, wideKeys, modest, calm, conditions, laid).
  DERIVED. THE GIVEN ROWS OF THIS SEAT. 8 by the template 'for every input the law returns true; each argument reads behind the call as it read before'; 0 by the template 'total and deterministic' (their statements: YtoebibgkpmppdaaTotals.lean).
  GIVEN WITH THE SEED: the statements are not yours to turn. If you find one false, say at which input.
  Laid BY PROGRAM, IN A SANDBOX (cutbox-rows.mjs): the forced cells as the released guide's own fill.sh prints them over the translation c7058823f2007fd0… (all of the seat's roots in one cut). By AI agents, Wed Nov 11 2026. No macro, syntax, notation, axiom, sorry.
-/
import Derived.Test.YtoebibgkpmppdaaChecked
import GoSem.Claim
import GoSem.ClaimJoined
import GoSem.ClaimMapViews
import Derived.JoinedTies
import Derived.KernelRfl
namespace Go.Proofs.Ytoebibgkpmppdaa
/- THE CELL 'sum', in the pinned program and in every row, IS THE sha256 OF THE DUMP (.gsa) THAT YtoebibgkpmppdaaProg.lean LOADS. Nothing in Lean hashes anything: it is a label: what it is worth is what the hold of that sum in a sandbox is worth. -/
noncomputable def Try.pinned : Pinned := { name := "ytoebibgkpmppdaa", sum := "c7058823f2007fd05a33b9d5237f666fa7cc6750085142570172627618015ad3", checked := Try.checked }
namespace Rows
def none {H : Type} : Left H := { results := [], args := [] }

/-- 'laws.FnExactHeirsOk': WHATEVER THE INPUT: true; the input reads as it did. -/
def fnExactHeirsOkSpec : ChangeSpec := { name := "fnExactHeirsOk", fn := fun _ => fun
  | [d] => { results := [.lit (.bool true)], args := [d] }
  | _ => none }
def fnExactHeirsOkRow : OpenClaim := { program := "ytoebibgkpmppdaa", sum := "c7058823f2007fd05a33b9d5237f666fa7cc6750085142570172627618015ad3", func := "loop.example/g00980/laws.FnExactHeirsOk", spec := "fnExactHeirsOk", unfollowed := true, recurses := true, apart := false }
def FnExactHeirsOkSaid : Prop := fnExactHeirsOkRow.holds Try.pinned (OpenSpec.ofChange fnExactHeirsOkSpec)

/-- ITS FALSE NEIGHBOUR: 'it returns false'. Refute it at one input. -/
def fnExactHeirsOkWrong : ChangeSpec := { name := "fnExactHeirsOk", fn := fun _ => fun
  | [d] => { results := [.lit (.bool false)], args := [d] }
  | _ => none }
def FnExactHeirsOkWrongFalsely : Prop := fnExactHeirsOkRow.holds Try.pinned (OpenSpec.ofChange fnExactHeirsOkWrong)

/-- 'laws.FnExactFindCycle': WHATEVER THE INPUT: true; the input reads as it did. -/
def fnExactFindCycleSpec : ChangeSpec := { name := "fnExactFindCycle", fn := fun _ => fun
  | [d] => { results := [.lit (.bool true)], args := [d] }
  | _ => none }
def fnExactFindCycleRow : OpenClaim := { program := "ytoebibgkpmppdaa", sum := "c7058823f2007fd05a33b9d5237f666fa7cc6750085142570172627618015ad3", func := "loop.example/g00980/laws.FnExactFindCycle", spec := "fnExactFindCycle", unfollowed := true, recurses := true, apart := false }
def FnExactFindCycleSaid : Prop := fnExactFindCycleRow.holds Try.pinned (OpenSpec.ofChange fnExactFindCycleSpec)

/-- ITS FALSE NEIGHBOUR: 'it returns false'. Refute it at one input. -/
def fnExactFindCycleWrong : ChangeSpec := { name := "fnExactFindCycle", fn := fun _ => fun
  | [d] => { results := [.lit (.bool false)], args := [d] }
  | _ => none }
def FnExactFindCycleWrongFalsely : Prop := fnExactFindCycleRow.holds Try.pinned (OpenSpec.ofChange fnExactFindCycleWrong)

/-- 'laws.FnExactLastMonth': WHATEVER THE INPUT: true; the input reads as it did. -/
def fnExactLastMonthSpec : ChangeSpec := { name := "fnExactLastMonth", fn := fun _ => fun
  | [d] => { results := [.lit (.bool true)], args := [d] }
  | _ => none }
def fnExactLastMonthRow : OpenClaim := { program := "ytoebibgkpmppdaa", sum := "c7058823f2007fd05a33b9d5237f666fa7cc6750085142570172627618015ad3", func := "loop.example/g00980/laws.FnExactLastMonth", spec := "fnExactLastMonth", unfollowed := true, recurses := true, apart := false }
def FnExactLastMonthSaid : Prop := fnExactLastMonthRow.holds Try.pinned (OpenSpec.ofChange fnExactLastMonthSpec)

/-- ITS FALSE NEIGHBOUR: 'it returns false'. Refute it at one input. -/
def fnExactLastMonthWrong : ChangeSpec := { name := "fnExactLastMonth", fn := fun _ => fun
  | [d] => { results := [.lit (.bool false)], args := [d] }
  | _ => none }
def FnExactLastMonthWrongFalsely : Prop := fnExactLastMonthRow.holds Try.pinned (OpenSpec.ofChange fnExactLastMonthWrong)

/-- 'laws.FnExactIsEntitled': WHATEVER THE INPUT: true; the input reads as it did. -/
def fnExactIsEntitledSpec : ChangeSpec := { name := "fnExactIsEntitled", fn := fun _ => fun
  | [d1, d2, d3] => { results := [.lit (.bool true)], args := [d1, d2, d3] }
  | _ => none }
def fnExactIsEntitledRow : OpenClaim := { program := "ytoebibgkpmppdaa", sum := "c7058823f2007fd05a33b9d5237f666fa7cc6750085142570172627618015ad3", func := "loop.example/g00980/laws.FnExactIsEntitled", spec := "fnExactIsEntitled", unfollowed := true, recurses := true, apart := false }
def FnExactIsEntitledSaid : Prop := fnExactIsEntitledRow.holds Try.pinned (OpenSpec.ofChange fnExactIsEntitledSpec)

/-- ITS FALSE NEIGHBOUR: 'it returns false'. Refute it at one input. -/
def fnExactIsEntitledWrong : ChangeSpec := { name := "fnExactIsEntitled", fn := fun _ => fun
  | [d1, d2, d3] => { results := [.lit (.bool false)], args := [d1, d2, d3] }
  | _ => none }
def FnExactIsEntitledWrongFalsely : Prop := fnExactIsEntitledRow.holds Try.pinned (OpenSpec.ofChange fnExactIsEntitledWrong)

/-- 'laws.FnExactHeirPayments': WHATEVER THE INPUT: true; the input reads as it did. -/
def fnExactHeirPaymentsSpec : ChangeSpec := { name := "fnExactHeirPayments", fn := fun _ => fun
  | [d1, d2, d3] => { results := [.lit (.bool true)], args := [d1, d2, d3] }
  | _ => none }
def fnExactHeirPaymentsRow : OpenClaim := { program := "ytoebibgkpmppdaa", sum := "c7058823f2007fd05a33b9d5237f666fa7cc6750085142570172627618015ad3", func := "loop.example/g00980/laws.FnExactHeirPayments", spec := "fnExactHeirPayments", unfollowed := true, recurses := true, apart := false }
def FnExactHeirPaymentsSaid : Prop := fnExactHeirPaymentsRow.holds Try.pinned (OpenSpec.ofChange fnExactHeirPaymentsSpec)

/-- ITS FALSE NEIGHBOUR: 'it returns false'. Refute it at one input. -/
def fnExactHeirPaymentsWrong : ChangeSpec := { name := "fnExactHeirPayments", fn := fun _ => fun
  | [d1, d2, d3] => { results := [.lit (.bool false)], args := [d1, d2, d3] }
  | _ => none }
def FnExactHeirPaymentsWrongFalsely : Prop := fnExactHeirPaymentsRow.holds Try.pinned (OpenSpec.ofChange fnExactHeirPaymentsWrong)

/-- 'laws.FnChains': WHATEVER THE INPUT: true; the input reads as it did. -/
def fnChainsSpec : ChangeSpec := { name := "fnChains", fn := fun _ => fun
  | [d] => { results := [.lit (.bool true)], args := [d] }
  | _ => none }
def fnChainsRow : OpenClaim := { program := "ytoebibgkpmppdaa", sum := "c7058823f2007fd05a33b9d5237f666fa7cc6750085142570172627618015ad3", func := "loop.example/g00980/laws.FnChains", spec := "fnChains", unfollowed := true, recurses := true, apart := false }
def FnChainsSaid : Prop := fnChainsRow.holds Try.pinned (OpenSpec.ofChange fnChainsSpec)

/-- ITS FALSE NEIGHBOUR: 'it returns false'. Refute it at one input. -/
def fnChainsWrong : ChangeSpec := { name := "fnChains", fn := fun _ => fun
  | [d] => { results := [.lit (.bool false)], args := [d] }
  | _ => none }
def FnChainsWrongFalsely : Prop := fnChainsRow.holds Try.pinned (OpenSpec.ofChange fnChainsWrong)

/-- 'laws.FnOtherHeirs': WHATEVER THE INPUT: true; the input reads as it did. -/
def fnOtherHeirsSpec : ChangeSpec := { name := "fnOtherHeirs", fn := fun _ => fun
  | [d] => { results := [.lit (.bool true)], args := [d] }
  | _ => none }
def fnOtherHeirsRow : OpenClaim := { program := "ytoebibgkpmppdaa", sum := "c7058823f2007fd05a33b9d5237f666fa7cc6750085142570172627618015ad3", func := "loop.example/g00980/laws.FnOtherHeirs", spec := "fnOtherHeirs", unfollowed := true, recurses := true, apart := false }
def FnOtherHeirsSaid : Prop := fnOtherHeirsRow.holds Try.pinned (OpenSpec.ofChange fnOtherHeirsSpec)

/-- ITS FALSE NEIGHBOUR: 'it returns false'. Refute it at one input. -/
def fnOtherHeirsWrong : ChangeSpec := { name := "fnOtherHeirs", fn := fun _ => fun
  | [d] => { results := [.lit (.bool false)], args := [d] }
  | _ => none }
def FnOtherHeirsWrongFalsely : Prop := fnOtherHeirsRow.holds Try.pinned (OpenSpec.ofChange fnOtherHeirsWrong)

/-- 'laws.FnHeirs': WHATEVER THE INPUT: true; the input reads as it did. -/
def fnHeirsSpec : ChangeSpec := { name := "fnHeirs", fn := fun _ => fun
  | [d] => { results := [.lit (.bool true)], args := [d] }
  | _ => none }
def fnHeirsRow : OpenClaim := { program := "ytoebibgkpmppdaa", sum := "c7058823f2007fd05a33b9d5237f666fa7cc6750085142570172627618015ad3", func := "loop.example/g00980/laws.FnHeirs", spec := "fnHeirs", unfollowed := true, recurses := true, apart := false }
def FnHeirsSaid : Prop := fnHeirsRow.holds Try.pinned (OpenSpec.ofChange fnHeirsSpec)

/-- ITS FALSE NEIGHBOUR: 'it returns false'. Refute it at one input. -/
def fnHeirsWrong : ChangeSpec := { name := "fnHeirs", fn := fun _ => fun
  | [d] => { results := [.lit (.bool false)], args := [d] }
  | _ => none }
def FnHeirsWrongFalsely : Prop := fnHeirsRow.holds Try.pinned (OpenSpec.ofChange fnHeirsWrong)

/- THE SECOND FORM. 'bulk': how many values and letters a reading holds, each counted each time it is reached (what is shared counts as often as it is met; a slice's spare places count too). A statement '..UptoSaid' is the law's where the arguments, and the package variables that the reading takes, are together of bulk at most 1048576: NARROWER than '..Said'. Prove '..Said' where nothing that the law and all that it calls make is longer than what came in: it says more and counts as full. Else prove '..UptoSaid'. A law counts once. -/
mutual
def uptoBulk {H : Type} : DataW H → Nat
  | .lit (.string bytes) => bytes.length + 1
  | .lit _ => 1
  | .nil => 1
  | .ptr d => uptoBulk d + 1
  | .slice elems spare => uptoBulkAll elems + uptoBulkAll spare + 1
  | .agg parts => uptoBulkAll parts + 1
  | .iface _ d => uptoBulk d + 1
  | .map entries => uptoBulkEntries entries + 1
  | .held _ => 1
def uptoBulkAll {H : Type} : List (DataW H) → Nat
  | [] => 0
  | d :: r => uptoBulk d + uptoBulkAll r
def uptoBulkEntries {H : Type} : List (Lit × DataW H) → Nat
  | [] => 0
  | x :: r => uptoBulkEntry x + uptoBulkEntries r
def uptoBulkEntry {H : Type} : Lit × DataW H → Nat
  | (.string bytes, d) => bytes.length + uptoBulk d + 1
  | (_, d) => uptoBulk d + 1
 end
def uptoSmall : (H : Type) → List (DataW H) → Bool := fun _ ds => decide (uptoBulkAll ds ≤ 1048576)
def OpenSpec.upto (s : _root_.Go.ChangeSpec) : _root_.Go.OpenSpec := { _root_.Go.OpenSpec.ofChange s with cond := some uptoSmall }

/-- 'laws.FnExactHeirsOk', WHERE WHAT IT READS IS OF BULK AT MOST 1048576: true; the input reads as it did. -/
def fnExactHeirsOkUptoRow : OpenClaim := { program := "ytoebibgkpmppdaa", sum := "c7058823f2007fd05a33b9d5237f666fa7cc6750085142570172627618015ad3", func := "loop.example/g00980/laws.FnExactHeirsOk", spec := "fnExactHeirsOk", unfollowed := true, recurses := true, apart := false, narrowed := true }
def FnExactHeirsOkUptoSaid : Prop := fnExactHeirsOkUptoRow.holds Try.pinned (OpenSpec.upto fnExactHeirsOkSpec)

/-- 'laws.FnExactFindCycle', WHERE WHAT IT READS IS OF BULK AT MOST 1048576: true; the input reads as it did. -/
def fnExactFindCycleUptoRow : OpenClaim := { program := "ytoebibgkpmppdaa", sum := "c7058823f2007fd05a33b9d5237f666fa7cc6750085142570172627618015ad3", func := "loop.example/g00980/laws.FnExactFindCycle", spec := "fnExactFindCycle", unfollowed := true, recurses := true, apart := false, narrowed := true }
def FnExactFindCycleUptoSaid : Prop := fnExactFindCycleUptoRow.holds Try.pinned (OpenSpec.upto fnExactFindCycleSpec)

/-- 'laws.FnExactLastMonth', WHERE WHAT IT READS IS OF BULK AT MOST 1048576: true; the input reads as it did. -/
def fnExactLastMonthUptoRow : OpenClaim := { program := "ytoebibgkpmppdaa", sum := "c7058823f2007fd05a33b9d5237f666fa7cc6750085142570172627618015ad3", func := "loop.example/g00980/laws.FnExactLastMonth", spec := "fnExactLastMonth", unfollowed := true, recurses := true, apart := false, narrowed := true }
def FnExactLastMonthUptoSaid : Prop := fnExactLastMonthUptoRow.holds Try.pinned (OpenSpec.upto fnExactLastMonthSpec)

/-- 'laws.FnExactIsEntitled', WHERE WHAT IT READS IS OF BULK AT MOST 1048576: true; the input reads as it did. -/
def fnExactIsEntitledUptoRow : OpenClaim := { program := "ytoebibgkpmppdaa", sum := "c7058823f2007fd05a33b9d5237f666fa7cc6750085142570172627618015ad3", func := "loop.example/g00980/laws.FnExactIsEntitled", spec := "fnExactIsEntitled", unfollowed := true, recurses := true, apart := false, narrowed := true }
def FnExactIsEntitledUptoSaid : Prop := fnExactIsEntitledUptoRow.holds Try.pinned (OpenSpec.upto fnExactIsEntitledSpec)

/-- 'laws.FnExactHeirPayments', WHERE WHAT IT READS IS OF BULK AT MOST 1048576: true; the input reads as it did. -/
def fnExactHeirPaymentsUptoRow : OpenClaim := { program := "ytoebibgkpmppdaa", sum := "c7058823f2007fd05a33b9d5237f666fa7cc6750085142570172627618015ad3", func := "loop.example/g00980/laws.FnExactHeirPayments", spec := "fnExactHeirPayments", unfollowed := true, recurses := true, apart := false, narrowed := true }
def FnExactHeirPaymentsUptoSaid : Prop := fnExactHeirPaymentsUptoRow.holds Try.pinned (OpenSpec.upto fnExactHeirPaymentsSpec)

/-- 'laws.FnChains', WHERE WHAT IT READS IS OF BULK AT MOST 1048576: true; the input reads as it did. -/
def fnChainsUptoRow : OpenClaim := { program := "ytoebibgkpmppdaa", sum := "c7058823f2007fd05a33b9d5237f666fa7cc6750085142570172627618015ad3", func := "loop.example/g00980/laws.FnChains", spec := "fnChains", unfollowed := true, recurses := true, apart := false, narrowed := true }
def FnChainsUptoSaid : Prop := fnChainsUptoRow.holds Try.pinned (OpenSpec.upto fnChainsSpec)

/-- 'laws.FnOtherHeirs', WHERE WHAT IT READS IS OF BULK AT MOST 1048576: true; the input reads as it did. -/
def fnOtherHeirsUptoRow : OpenClaim := { program := "ytoebibgkpmppdaa", sum := "c7058823f2007fd05a33b9d5237f666fa7cc6750085142570172627618015ad3", func := "loop.example/g00980/laws.FnOtherHeirs", spec := "fnOtherHeirs", unfollowed := true, recurses := true, apart := false, narrowed := true }
def FnOtherHeirsUptoSaid : Prop := fnOtherHeirsUptoRow.holds Try.pinned (OpenSpec.upto fnOtherHeirsSpec)

/-- 'laws.FnHeirs', WHERE WHAT IT READS IS OF BULK AT MOST 1048576: true; the input reads as it did. -/
def fnHeirsUptoRow : OpenClaim := { program := "ytoebibgkpmppdaa", sum := "c7058823f2007fd05a33b9d5237f666fa7cc6750085142570172627618015ad3", func := "loop.example/g00980/laws.FnHeirs", spec := "fnHeirs", unfollowed := true, recurses := true, apart := false, narrowed := true }
def FnHeirsUptoSaid : Prop := fnHeirsUptoRow.holds Try.pinned (OpenSpec.upto fnHeirsSpec)

end Rows
end Go.Proofs.Ytoebibgkpmppdaa
