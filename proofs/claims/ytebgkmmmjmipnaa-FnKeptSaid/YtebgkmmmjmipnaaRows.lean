/-
  No cell of these rows narrows 'for every input' (looked for: loops, veiled, ifaces, maps, wideKeys, modest, calm, conditions, laid).
  DERIVED. THE GIVEN ROWS OF THIS SEAT. 8 by the template 'for every input the law returns true; each argument reads behind the call as it read before'; 0 by the template 'total and deterministic' (their statements: YtebgkmmmjmipnaaTotals.lean).
  GIVEN WITH THE SEED: the statements are not yours to turn. If you find one false, say at which input.
  Laid BY PROGRAM, IN A SANDBOX (cutbox-rows.mjs): the forced cells as the released guide's own fill.sh prints them over the translation e8f507287bc1342c… (all of the seat's roots in one cut). By AI agents, Wed Nov 11 2026. No macro, syntax, notation, axiom, sorry.
-/
import Derived.Test.YtebgkmmmjmipnaaChecked
import GoSem.Claim
import GoSem.ClaimJoined
import GoSem.ClaimMapViews
import Derived.JoinedTies
import Derived.KernelRfl
namespace Go.Proofs.Ytebgkmmmjmipnaa
/- THE CELL 'sum', in the pinned program and in every row, IS THE sha256 OF THE DUMP (.gsa) THAT YtebgkmmmjmipnaaProg.lean LOADS. Nothing in Lean hashes anything: it is a label: what it is worth is what the hold of that sum in a sandbox is worth. -/
noncomputable def Try.pinned : Pinned := { name := "ytebgkmmmjmipnaa", sum := "e8f507287bc1342cd209455c480cff0de3c512d7dfcf6ec863b84a11992cdf86", checked := Try.checked }
namespace Rows
def none {H : Type} : Left H := { results := [], args := [] }

/-- 'laws.FnExactOrdersOk': WHATEVER THE INPUT: true; the input reads as it did. -/
def fnExactOrdersOkSpec : ChangeSpec := { name := "fnExactOrdersOk", fn := fun _ => fun
  | [d] => { results := [.lit (.bool true)], args := [d] }
  | _ => none }
def fnExactOrdersOkRow : OpenClaim := { program := "ytebgkmmmjmipnaa", sum := "e8f507287bc1342cd209455c480cff0de3c512d7dfcf6ec863b84a11992cdf86", func := "loop.example/g00980/laws.FnExactOrdersOk", spec := "fnExactOrdersOk", apart := false }
def FnExactOrdersOkSaid : Prop := fnExactOrdersOkRow.holds Try.pinned (OpenSpec.ofChange fnExactOrdersOkSpec)

/-- ITS FALSE NEIGHBOUR: 'it returns false'. Refute it at one input. -/
def fnExactOrdersOkWrong : ChangeSpec := { name := "fnExactOrdersOk", fn := fun _ => fun
  | [d] => { results := [.lit (.bool false)], args := [d] }
  | _ => none }
def FnExactOrdersOkWrongFalsely : Prop := fnExactOrdersOkRow.holds Try.pinned (OpenSpec.ofChange fnExactOrdersOkWrong)

/-- 'laws.FnExactLateOrders': WHATEVER THE INPUT: true; the input reads as it did. -/
def fnExactLateOrdersSpec : ChangeSpec := { name := "fnExactLateOrders", fn := fun _ => fun
  | [d] => { results := [.lit (.bool true)], args := [d] }
  | _ => none }
def fnExactLateOrdersRow : OpenClaim := { program := "ytebgkmmmjmipnaa", sum := "e8f507287bc1342cd209455c480cff0de3c512d7dfcf6ec863b84a11992cdf86", func := "loop.example/g00980/laws.FnExactLateOrders", spec := "fnExactLateOrders", apart := false }
def FnExactLateOrdersSaid : Prop := fnExactLateOrdersRow.holds Try.pinned (OpenSpec.ofChange fnExactLateOrdersSpec)

/-- ITS FALSE NEIGHBOUR: 'it returns false'. Refute it at one input. -/
def fnExactLateOrdersWrong : ChangeSpec := { name := "fnExactLateOrders", fn := fun _ => fun
  | [d] => { results := [.lit (.bool false)], args := [d] }
  | _ => none }
def FnExactLateOrdersWrongFalsely : Prop := fnExactLateOrdersRow.holds Try.pinned (OpenSpec.ofChange fnExactLateOrdersWrong)

/-- 'laws.FnExactOrderSequence': WHATEVER THE INPUT: true; the input reads as it did. -/
def fnExactOrderSequenceSpec : ChangeSpec := { name := "fnExactOrderSequence", fn := fun _ => fun
  | [d1, d2, d3] => { results := [.lit (.bool true)], args := [d1, d2, d3] }
  | _ => none }
def fnExactOrderSequenceRow : OpenClaim := { program := "ytebgkmmmjmipnaa", sum := "e8f507287bc1342cd209455c480cff0de3c512d7dfcf6ec863b84a11992cdf86", func := "loop.example/g00980/laws.FnExactOrderSequence", spec := "fnExactOrderSequence", unfollowed := true, recurses := true, apart := false }
def FnExactOrderSequenceSaid : Prop := fnExactOrderSequenceRow.holds Try.pinned (OpenSpec.ofChange fnExactOrderSequenceSpec)

/-- ITS FALSE NEIGHBOUR: 'it returns false'. Refute it at one input. -/
def fnExactOrderSequenceWrong : ChangeSpec := { name := "fnExactOrderSequence", fn := fun _ => fun
  | [d1, d2, d3] => { results := [.lit (.bool false)], args := [d1, d2, d3] }
  | _ => none }
def FnExactOrderSequenceWrongFalsely : Prop := fnExactOrderSequenceRow.holds Try.pinned (OpenSpec.ofChange fnExactOrderSequenceWrong)

/-- 'laws.FnExactSplitAmount': WHATEVER THE INPUT: true; the input reads as it did. -/
def fnExactSplitAmountSpec : ChangeSpec := { name := "fnExactSplitAmount", fn := fun _ => fun
  | [d1, d2, d3, d4] => { results := [.lit (.bool true)], args := [d1, d2, d3, d4] }
  | _ => none }
def fnExactSplitAmountRow : OpenClaim := { program := "ytebgkmmmjmipnaa", sum := "e8f507287bc1342cd209455c480cff0de3c512d7dfcf6ec863b84a11992cdf86", func := "loop.example/g00980/laws.FnExactSplitAmount", spec := "fnExactSplitAmount", unfollowed := true, recurses := true, apart := false }
def FnExactSplitAmountSaid : Prop := fnExactSplitAmountRow.holds Try.pinned (OpenSpec.ofChange fnExactSplitAmountSpec)

/-- ITS FALSE NEIGHBOUR: 'it returns false'. Refute it at one input. -/
def fnExactSplitAmountWrong : ChangeSpec := { name := "fnExactSplitAmount", fn := fun _ => fun
  | [d1, d2, d3, d4] => { results := [.lit (.bool false)], args := [d1, d2, d3, d4] }
  | _ => none }
def FnExactSplitAmountWrongFalsely : Prop := fnExactSplitAmountRow.holds Try.pinned (OpenSpec.ofChange fnExactSplitAmountWrong)

/-- 'laws.FnExactKeptShare': WHATEVER THE INPUT: true; the input reads as it did. -/
def fnExactKeptShareSpec : ChangeSpec := { name := "fnExactKeptShare", fn := fun _ => fun
  | [d1, d2, d3] => { results := [.lit (.bool true)], args := [d1, d2, d3] }
  | _ => none }
def fnExactKeptShareRow : OpenClaim := { program := "ytebgkmmmjmipnaa", sum := "e8f507287bc1342cd209455c480cff0de3c512d7dfcf6ec863b84a11992cdf86", func := "loop.example/g00980/laws.FnExactKeptShare", spec := "fnExactKeptShare", unfollowed := true, recurses := true, apart := false }
def FnExactKeptShareSaid : Prop := fnExactKeptShareRow.holds Try.pinned (OpenSpec.ofChange fnExactKeptShareSpec)

/-- ITS FALSE NEIGHBOUR: 'it returns false'. Refute it at one input. -/
def fnExactKeptShareWrong : ChangeSpec := { name := "fnExactKeptShare", fn := fun _ => fun
  | [d1, d2, d3] => { results := [.lit (.bool false)], args := [d1, d2, d3] }
  | _ => none }
def FnExactKeptShareWrongFalsely : Prop := fnExactKeptShareRow.holds Try.pinned (OpenSpec.ofChange fnExactKeptShareWrong)

/-- 'laws.FnDivided': WHATEVER THE INPUT: true; the input reads as it did. -/
def fnDividedSpec : ChangeSpec := { name := "fnDivided", fn := fun _ => fun
  | [d] => { results := [.lit (.bool true)], args := [d] }
  | _ => none }
def fnDividedRow : OpenClaim := { program := "ytebgkmmmjmipnaa", sum := "e8f507287bc1342cd209455c480cff0de3c512d7dfcf6ec863b84a11992cdf86", func := "loop.example/g00980/laws.FnDivided", spec := "fnDivided", unfollowed := true, recurses := true, apart := false }
def FnDividedSaid : Prop := fnDividedRow.holds Try.pinned (OpenSpec.ofChange fnDividedSpec)

/-- ITS FALSE NEIGHBOUR: 'it returns false'. Refute it at one input. -/
def fnDividedWrong : ChangeSpec := { name := "fnDivided", fn := fun _ => fun
  | [d] => { results := [.lit (.bool false)], args := [d] }
  | _ => none }
def FnDividedWrongFalsely : Prop := fnDividedRow.holds Try.pinned (OpenSpec.ofChange fnDividedWrong)

/-- 'laws.FnLateOrders': WHATEVER THE INPUT: true; the input reads as it did. -/
def fnLateOrdersSpec : ChangeSpec := { name := "fnLateOrders", fn := fun _ => fun
  | [d] => { results := [.lit (.bool true)], args := [d] }
  | _ => none }
def fnLateOrdersRow : OpenClaim := { program := "ytebgkmmmjmipnaa", sum := "e8f507287bc1342cd209455c480cff0de3c512d7dfcf6ec863b84a11992cdf86", func := "loop.example/g00980/laws.FnLateOrders", spec := "fnLateOrders", unfollowed := true, recurses := true, apart := false }
def FnLateOrdersSaid : Prop := fnLateOrdersRow.holds Try.pinned (OpenSpec.ofChange fnLateOrdersSpec)

/-- ITS FALSE NEIGHBOUR: 'it returns false'. Refute it at one input. -/
def fnLateOrdersWrong : ChangeSpec := { name := "fnLateOrders", fn := fun _ => fun
  | [d] => { results := [.lit (.bool false)], args := [d] }
  | _ => none }
def FnLateOrdersWrongFalsely : Prop := fnLateOrdersRow.holds Try.pinned (OpenSpec.ofChange fnLateOrdersWrong)

/-- 'laws.FnKept': WHATEVER THE INPUT: true; the input reads as it did. -/
def fnKeptSpec : ChangeSpec := { name := "fnKept", fn := fun _ => fun
  | [d] => { results := [.lit (.bool true)], args := [d] }
  | _ => none }
def fnKeptRow : OpenClaim := { program := "ytebgkmmmjmipnaa", sum := "e8f507287bc1342cd209455c480cff0de3c512d7dfcf6ec863b84a11992cdf86", func := "loop.example/g00980/laws.FnKept", spec := "fnKept", unfollowed := true, recurses := true, apart := false }
def FnKeptSaid : Prop := fnKeptRow.holds Try.pinned (OpenSpec.ofChange fnKeptSpec)

/-- ITS FALSE NEIGHBOUR: 'it returns false'. Refute it at one input. -/
def fnKeptWrong : ChangeSpec := { name := "fnKept", fn := fun _ => fun
  | [d] => { results := [.lit (.bool false)], args := [d] }
  | _ => none }
def FnKeptWrongFalsely : Prop := fnKeptRow.holds Try.pinned (OpenSpec.ofChange fnKeptWrong)

/- THE SECOND FORM. 'bulk': how many values and letters a reading holds, each counted each time it is reached (what is shared counts as often as it is met; a slice's spare places count too). A statement '..UptoSaid' is the law's where the arguments, and the package variables that the reading takes, are together of bulk at most 1048576: NARROWER than '..Said'. Prove '..Said' where nothing that the law and all that it calls make is longer than what came in: it says more and counts as full. Else prove '..UptoSaid'. A law counts once. -/
mutual
def uptoBulk {H : Type} : DataW H → Nat
  | .lit (.string bytes) => bytes.length + 1
  | .lit _ => 1
  | .nil => 1
  | .ptr d => uptoBulk d + 1
  | .slice elems spare => uptoBulkAll elems + uptoBulkAll spare + 1
  | .agg parts => uptoBulkAll parts + 1
  | .iface _ d => uptoBulk d + 1
  | .map entries => uptoBulkEntries entries + 1
  | .held _ => 1
def uptoBulkAll {H : Type} : List (DataW H) → Nat
  | [] => 0
  | d :: r => uptoBulk d + uptoBulkAll r
def uptoBulkEntries {H : Type} : List (Lit × DataW H) → Nat
  | [] => 0
  | x :: r => uptoBulkEntry x + uptoBulkEntries r
def uptoBulkEntry {H : Type} : Lit × DataW H → Nat
  | (.string bytes, d) => bytes.length + uptoBulk d + 1
  | (_, d) => uptoBulk d + 1
 end
def uptoSmall : (H : Type) → List (DataW H) → Bool := fun _ ds => decide (uptoBulkAll ds ≤ 1048576)
def OpenSpec.upto (s : _root_.Go.ChangeSpec) : _root_.Go.OpenSpec := { _root_.Go.OpenSpec.ofChange s with cond := some uptoSmall }

/-- 'laws.FnExactOrdersOk', WHERE WHAT IT READS IS OF BULK AT MOST 1048576: true; the input reads as it did. -/
def fnExactOrdersOkUptoRow : OpenClaim := { program := "ytebgkmmmjmipnaa", sum := "e8f507287bc1342cd209455c480cff0de3c512d7dfcf6ec863b84a11992cdf86", func := "loop.example/g00980/laws.FnExactOrdersOk", spec := "fnExactOrdersOk", apart := false, narrowed := true }
def FnExactOrdersOkUptoSaid : Prop := fnExactOrdersOkUptoRow.holds Try.pinned (OpenSpec.upto fnExactOrdersOkSpec)

/-- 'laws.FnExactLateOrders', WHERE WHAT IT READS IS OF BULK AT MOST 1048576: true; the input reads as it did. -/
def fnExactLateOrdersUptoRow : OpenClaim := { program := "ytebgkmmmjmipnaa", sum := "e8f507287bc1342cd209455c480cff0de3c512d7dfcf6ec863b84a11992cdf86", func := "loop.example/g00980/laws.FnExactLateOrders", spec := "fnExactLateOrders", apart := false, narrowed := true }
def FnExactLateOrdersUptoSaid : Prop := fnExactLateOrdersUptoRow.holds Try.pinned (OpenSpec.upto fnExactLateOrdersSpec)

/-- 'laws.FnExactOrderSequence', WHERE WHAT IT READS IS OF BULK AT MOST 1048576: true; the input reads as it did. -/
def fnExactOrderSequenceUptoRow : OpenClaim := { program := "ytebgkmmmjmipnaa", sum := "e8f507287bc1342cd209455c480cff0de3c512d7dfcf6ec863b84a11992cdf86", func := "loop.example/g00980/laws.FnExactOrderSequence", spec := "fnExactOrderSequence", unfollowed := true, recurses := true, apart := false, narrowed := true }
def FnExactOrderSequenceUptoSaid : Prop := fnExactOrderSequenceUptoRow.holds Try.pinned (OpenSpec.upto fnExactOrderSequenceSpec)

/-- 'laws.FnExactSplitAmount', WHERE WHAT IT READS IS OF BULK AT MOST 1048576: true; the input reads as it did. -/
def fnExactSplitAmountUptoRow : OpenClaim := { program := "ytebgkmmmjmipnaa", sum := "e8f507287bc1342cd209455c480cff0de3c512d7dfcf6ec863b84a11992cdf86", func := "loop.example/g00980/laws.FnExactSplitAmount", spec := "fnExactSplitAmount", unfollowed := true, recurses := true, apart := false, narrowed := true }
def FnExactSplitAmountUptoSaid : Prop := fnExactSplitAmountUptoRow.holds Try.pinned (OpenSpec.upto fnExactSplitAmountSpec)

/-- 'laws.FnExactKeptShare', WHERE WHAT IT READS IS OF BULK AT MOST 1048576: true; the input reads as it did. -/
def fnExactKeptShareUptoRow : OpenClaim := { program := "ytebgkmmmjmipnaa", sum := "e8f507287bc1342cd209455c480cff0de3c512d7dfcf6ec863b84a11992cdf86", func := "loop.example/g00980/laws.FnExactKeptShare", spec := "fnExactKeptShare", unfollowed := true, recurses := true, apart := false, narrowed := true }
def FnExactKeptShareUptoSaid : Prop := fnExactKeptShareUptoRow.holds Try.pinned (OpenSpec.upto fnExactKeptShareSpec)

/-- 'laws.FnDivided', WHERE WHAT IT READS IS OF BULK AT MOST 1048576: true; the input reads as it did. -/
def fnDividedUptoRow : OpenClaim := { program := "ytebgkmmmjmipnaa", sum := "e8f507287bc1342cd209455c480cff0de3c512d7dfcf6ec863b84a11992cdf86", func := "loop.example/g00980/laws.FnDivided", spec := "fnDivided", unfollowed := true, recurses := true, apart := false, narrowed := true }
def FnDividedUptoSaid : Prop := fnDividedUptoRow.holds Try.pinned (OpenSpec.upto fnDividedSpec)

/-- 'laws.FnLateOrders', WHERE WHAT IT READS IS OF BULK AT MOST 1048576: true; the input reads as it did. -/
def fnLateOrdersUptoRow : OpenClaim := { program := "ytebgkmmmjmipnaa", sum := "e8f507287bc1342cd209455c480cff0de3c512d7dfcf6ec863b84a11992cdf86", func := "loop.example/g00980/laws.FnLateOrders", spec := "fnLateOrders", unfollowed := true, recurses := true, apart := false, narrowed := true }
def FnLateOrdersUptoSaid : Prop := fnLateOrdersUptoRow.holds Try.pinned (OpenSpec.upto fnLateOrdersSpec)

/-- 'laws.FnKept', WHERE WHAT IT READS IS OF BULK AT MOST 1048576: true; the input reads as it did. -/
def fnKeptUptoRow : OpenClaim := { program := "ytebgkmmmjmipnaa", sum := "e8f507287bc1342cd209455c480cff0de3c512d7dfcf6ec863b84a11992cdf86", func := "loop.example/g00980/laws.FnKept", spec := "fnKept", unfollowed := true, recurses := true, apart := false, narrowed := true }
def FnKeptUptoSaid : Prop := fnKeptUptoRow.holds Try.pinned (OpenSpec.upto fnKeptSpec)

end Rows
end Go.Proofs.Ytebgkmmmjmipnaa
