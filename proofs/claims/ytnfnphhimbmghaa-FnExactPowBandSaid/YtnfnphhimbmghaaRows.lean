/-
  No cell of these rows narrows 'for every input' (looked for: loops, veiled, ifaces, maps, wideKeys, modest, calm, conditions, laid).
  DERIVED. THE GIVEN ROWS OF THIS SEAT. 12 by the template 'for every input the law returns true; each argument reads behind the call as it read before'; 0 by the template 'total and deterministic' (their statements: YtnfnphhimbmghaaTotals.lean).
  GIVEN WITH THE SEED: the statements are not yours to turn. If you find one false, say at which input.
  Laid BY PROGRAM, IN A SANDBOX (cutbox-rows.mjs): the forced cells as the released guide's own fill.sh prints them over the translation f9748477a7d8a0a6… (all of the seat's roots in one cut). By AI agents, Wed Nov 11 2026. No macro, syntax, notation, axiom, sorry.
-/
import Derived.Test.YtnfnphhimbmghaaChecked
import GoSem.Claim
import GoSem.ClaimJoined
import GoSem.ClaimMapViews
import Derived.JoinedTies
import Derived.KernelRfl
namespace Go.Proofs.Ytnfnphhimbmghaa
/- THE CELL 'sum', in the pinned program and in every row, IS THE sha256 OF THE DUMP (.gsa) THAT YtnfnphhimbmghaaProg.lean LOADS. Nothing in Lean hashes anything: it is a label: what it is worth is what the hold of that sum in a sandbox is worth. -/
noncomputable def Try.pinned : Pinned := { name := "ytnfnphhimbmghaa", sum := "f9748477a7d8a0a691e02399eb0ab5c729a754cfbd33400228ea86a942d7f63a", checked := Try.checked }
namespace Rows
def none {H : Type} : Left H := { results := [], args := [] }

/-- 'laws.FnExactBandOk': WHATEVER THE INPUT: true; the input reads as it did. -/
def fnExactBandOkSpec : ChangeSpec := { name := "fnExactBandOk", fn := fun _ => fun
  | [d] => { results := [.lit (.bool true)], args := [d] }
  | _ => none }
def fnExactBandOkRow : OpenClaim := { program := "ytnfnphhimbmghaa", sum := "f9748477a7d8a0a691e02399eb0ab5c729a754cfbd33400228ea86a942d7f63a", func := "loop.example/g00980/laws.FnExactBandOk", spec := "fnExactBandOk", apart := false }
def FnExactBandOkSaid : Prop := fnExactBandOkRow.holds Try.pinned (OpenSpec.ofChange fnExactBandOkSpec)

/-- ITS FALSE NEIGHBOUR: 'it returns false'. Refute it at one input. -/
def fnExactBandOkWrong : ChangeSpec := { name := "fnExactBandOk", fn := fun _ => fun
  | [d] => { results := [.lit (.bool false)], args := [d] }
  | _ => none }
def FnExactBandOkWrongFalsely : Prop := fnExactBandOkRow.holds Try.pinned (OpenSpec.ofChange fnExactBandOkWrong)

/-- 'laws.FnExactBandWithin': WHATEVER THE INPUT: true; the input reads as it did. -/
def fnExactBandWithinSpec : ChangeSpec := { name := "fnExactBandWithin", fn := fun _ => fun
  | [d1, d2] => { results := [.lit (.bool true)], args := [d1, d2] }
  | _ => none }
def fnExactBandWithinRow : OpenClaim := { program := "ytnfnphhimbmghaa", sum := "f9748477a7d8a0a691e02399eb0ab5c729a754cfbd33400228ea86a942d7f63a", func := "loop.example/g00980/laws.FnExactBandWithin", spec := "fnExactBandWithin", apart := false }
def FnExactBandWithinSaid : Prop := fnExactBandWithinRow.holds Try.pinned (OpenSpec.ofChange fnExactBandWithinSpec)

/-- ITS FALSE NEIGHBOUR: 'it returns false'. Refute it at one input. -/
def fnExactBandWithinWrong : ChangeSpec := { name := "fnExactBandWithin", fn := fun _ => fun
  | [d1, d2] => { results := [.lit (.bool false)], args := [d1, d2] }
  | _ => none }
def FnExactBandWithinWrongFalsely : Prop := fnExactBandWithinRow.holds Try.pinned (OpenSpec.ofChange fnExactBandWithinWrong)

/-- 'laws.FnExactTransferValue': WHATEVER THE INPUT: true; the input reads as it did. -/
def fnExactTransferValueSpec : ChangeSpec := { name := "fnExactTransferValue", fn := fun _ => fun
  | [d1, d2] => { results := [.lit (.bool true)], args := [d1, d2] }
  | _ => none }
def fnExactTransferValueRow : OpenClaim := { program := "ytnfnphhimbmghaa", sum := "f9748477a7d8a0a691e02399eb0ab5c729a754cfbd33400228ea86a942d7f63a", func := "loop.example/g00980/laws.FnExactTransferValue", spec := "fnExactTransferValue", apart := false }
def FnExactTransferValueSaid : Prop := fnExactTransferValueRow.holds Try.pinned (OpenSpec.ofChange fnExactTransferValueSpec)

/-- ITS FALSE NEIGHBOUR: 'it returns false'. Refute it at one input. -/
def fnExactTransferValueWrong : ChangeSpec := { name := "fnExactTransferValue", fn := fun _ => fun
  | [d1, d2] => { results := [.lit (.bool false)], args := [d1, d2] }
  | _ => none }
def FnExactTransferValueWrongFalsely : Prop := fnExactTransferValueRow.holds Try.pinned (OpenSpec.ofChange fnExactTransferValueWrong)

/-- 'laws.FnExactBandOf': WHATEVER THE INPUT: true; the input reads as it did. -/
def fnExactBandOfSpec : ChangeSpec := { name := "fnExactBandOf", fn := fun _ => fun
  | [d1, d2] => { results := [.lit (.bool true)], args := [d1, d2] }
  | _ => none }
def fnExactBandOfRow : OpenClaim := { program := "ytnfnphhimbmghaa", sum := "f9748477a7d8a0a691e02399eb0ab5c729a754cfbd33400228ea86a942d7f63a", func := "loop.example/g00980/laws.FnExactBandOf", spec := "fnExactBandOf", apart := false }
def FnExactBandOfSaid : Prop := fnExactBandOfRow.holds Try.pinned (OpenSpec.ofChange fnExactBandOfSpec)

/-- ITS FALSE NEIGHBOUR: 'it returns false'. Refute it at one input. -/
def fnExactBandOfWrong : ChangeSpec := { name := "fnExactBandOf", fn := fun _ => fun
  | [d1, d2] => { results := [.lit (.bool false)], args := [d1, d2] }
  | _ => none }
def FnExactBandOfWrongFalsely : Prop := fnExactBandOfRow.holds Try.pinned (OpenSpec.ofChange fnExactBandOfWrong)

/-- 'laws.FnExactBandHas': WHATEVER THE INPUT: true; the input reads as it did. -/
def fnExactBandHasSpec : ChangeSpec := { name := "fnExactBandHas", fn := fun _ => fun
  | [d1, d2, d3] => { results := [.lit (.bool true)], args := [d1, d2, d3] }
  | _ => none }
def fnExactBandHasRow : OpenClaim := { program := "ytnfnphhimbmghaa", sum := "f9748477a7d8a0a691e02399eb0ab5c729a754cfbd33400228ea86a942d7f63a", func := "loop.example/g00980/laws.FnExactBandHas", spec := "fnExactBandHas", apart := false }
def FnExactBandHasSaid : Prop := fnExactBandHasRow.holds Try.pinned (OpenSpec.ofChange fnExactBandHasSpec)

/-- ITS FALSE NEIGHBOUR: 'it returns false'. Refute it at one input. -/
def fnExactBandHasWrong : ChangeSpec := { name := "fnExactBandHas", fn := fun _ => fun
  | [d1, d2, d3] => { results := [.lit (.bool false)], args := [d1, d2, d3] }
  | _ => none }
def FnExactBandHasWrongFalsely : Prop := fnExactBandHasRow.holds Try.pinned (OpenSpec.ofChange fnExactBandHasWrong)

/-- 'laws.FnExactStatusAfter': WHATEVER THE INPUT: true; the input reads as it did. -/
def fnExactStatusAfterSpec : ChangeSpec := { name := "fnExactStatusAfter", fn := fun _ => fun
  | [d1, d2] => { results := [.lit (.bool true)], args := [d1, d2] }
  | _ => none }
def fnExactStatusAfterRow : OpenClaim := { program := "ytnfnphhimbmghaa", sum := "f9748477a7d8a0a691e02399eb0ab5c729a754cfbd33400228ea86a942d7f63a", func := "loop.example/g00980/laws.FnExactStatusAfter", spec := "fnExactStatusAfter", apart := false }
def FnExactStatusAfterSaid : Prop := fnExactStatusAfterRow.holds Try.pinned (OpenSpec.ofChange fnExactStatusAfterSpec)

/-- ITS FALSE NEIGHBOUR: 'it returns false'. Refute it at one input. -/
def fnExactStatusAfterWrong : ChangeSpec := { name := "fnExactStatusAfter", fn := fun _ => fun
  | [d1, d2] => { results := [.lit (.bool false)], args := [d1, d2] }
  | _ => none }
def FnExactStatusAfterWrongFalsely : Prop := fnExactStatusAfterRow.holds Try.pinned (OpenSpec.ofChange fnExactStatusAfterWrong)

/-- 'laws.FnExactReserveFor': WHATEVER THE INPUT: true; the input reads as it did. -/
def fnExactReserveForSpec : ChangeSpec := { name := "fnExactReserveFor", fn := fun _ => fun
  | [d1, d2] => { results := [.lit (.bool true)], args := [d1, d2] }
  | _ => none }
def fnExactReserveForRow : OpenClaim := { program := "ytnfnphhimbmghaa", sum := "f9748477a7d8a0a691e02399eb0ab5c729a754cfbd33400228ea86a942d7f63a", func := "loop.example/g00980/laws.FnExactReserveFor", spec := "fnExactReserveFor", apart := false }
def FnExactReserveForSaid : Prop := fnExactReserveForRow.holds Try.pinned (OpenSpec.ofChange fnExactReserveForSpec)

/-- ITS FALSE NEIGHBOUR: 'it returns false'. Refute it at one input. -/
def fnExactReserveForWrong : ChangeSpec := { name := "fnExactReserveFor", fn := fun _ => fun
  | [d1, d2] => { results := [.lit (.bool false)], args := [d1, d2] }
  | _ => none }
def FnExactReserveForWrongFalsely : Prop := fnExactReserveForRow.holds Try.pinned (OpenSpec.ofChange fnExactReserveForWrong)

/-- 'laws.FnExactBandMul': WHATEVER THE INPUT: true; the input reads as it did. -/
def fnExactBandMulSpec : ChangeSpec := { name := "fnExactBandMul", fn := fun _ => fun
  | [d1, d2] => { results := [.lit (.bool true)], args := [d1, d2] }
  | _ => none }
def fnExactBandMulRow : OpenClaim := { program := "ytnfnphhimbmghaa", sum := "f9748477a7d8a0a691e02399eb0ab5c729a754cfbd33400228ea86a942d7f63a", func := "loop.example/g00980/laws.FnExactBandMul", spec := "fnExactBandMul", apart := false }
def FnExactBandMulSaid : Prop := fnExactBandMulRow.holds Try.pinned (OpenSpec.ofChange fnExactBandMulSpec)

/-- ITS FALSE NEIGHBOUR: 'it returns false'. Refute it at one input. -/
def fnExactBandMulWrong : ChangeSpec := { name := "fnExactBandMul", fn := fun _ => fun
  | [d1, d2] => { results := [.lit (.bool false)], args := [d1, d2] }
  | _ => none }
def FnExactBandMulWrongFalsely : Prop := fnExactBandMulRow.holds Try.pinned (OpenSpec.ofChange fnExactBandMulWrong)

/-- 'laws.FnExactDiscountBand': WHATEVER THE INPUT: true; the input reads as it did. -/
def fnExactDiscountBandSpec : ChangeSpec := { name := "fnExactDiscountBand", fn := fun _ => fun
  | [d] => { results := [.lit (.bool true)], args := [d] }
  | _ => none }
def fnExactDiscountBandRow : OpenClaim := { program := "ytnfnphhimbmghaa", sum := "f9748477a7d8a0a691e02399eb0ab5c729a754cfbd33400228ea86a942d7f63a", func := "loop.example/g00980/laws.FnExactDiscountBand", spec := "fnExactDiscountBand", apart := false }
def FnExactDiscountBandSaid : Prop := fnExactDiscountBandRow.holds Try.pinned (OpenSpec.ofChange fnExactDiscountBandSpec)

/-- ITS FALSE NEIGHBOUR: 'it returns false'. Refute it at one input. -/
def fnExactDiscountBandWrong : ChangeSpec := { name := "fnExactDiscountBand", fn := fun _ => fun
  | [d] => { results := [.lit (.bool false)], args := [d] }
  | _ => none }
def FnExactDiscountBandWrongFalsely : Prop := fnExactDiscountBandRow.holds Try.pinned (OpenSpec.ofChange fnExactDiscountBandWrong)

/-- 'laws.FnExactBandAdd': WHATEVER THE INPUT: true; the input reads as it did. -/
def fnExactBandAddSpec : ChangeSpec := { name := "fnExactBandAdd", fn := fun _ => fun
  | [d1, d2] => { results := [.lit (.bool true)], args := [d1, d2] }
  | _ => none }
def fnExactBandAddRow : OpenClaim := { program := "ytnfnphhimbmghaa", sum := "f9748477a7d8a0a691e02399eb0ab5c729a754cfbd33400228ea86a942d7f63a", func := "loop.example/g00980/laws.FnExactBandAdd", spec := "fnExactBandAdd", apart := false }
def FnExactBandAddSaid : Prop := fnExactBandAddRow.holds Try.pinned (OpenSpec.ofChange fnExactBandAddSpec)

/-- ITS FALSE NEIGHBOUR: 'it returns false'. Refute it at one input. -/
def fnExactBandAddWrong : ChangeSpec := { name := "fnExactBandAdd", fn := fun _ => fun
  | [d1, d2] => { results := [.lit (.bool false)], args := [d1, d2] }
  | _ => none }
def FnExactBandAddWrongFalsely : Prop := fnExactBandAddRow.holds Try.pinned (OpenSpec.ofChange fnExactBandAddWrong)

/-- 'laws.FnExactBandTimes': WHATEVER THE INPUT: true; the input reads as it did. -/
def fnExactBandTimesSpec : ChangeSpec := { name := "fnExactBandTimes", fn := fun _ => fun
  | [d1, d2] => { results := [.lit (.bool true)], args := [d1, d2] }
  | _ => none }
def fnExactBandTimesRow : OpenClaim := { program := "ytnfnphhimbmghaa", sum := "f9748477a7d8a0a691e02399eb0ab5c729a754cfbd33400228ea86a942d7f63a", func := "loop.example/g00980/laws.FnExactBandTimes", spec := "fnExactBandTimes", apart := false }
def FnExactBandTimesSaid : Prop := fnExactBandTimesRow.holds Try.pinned (OpenSpec.ofChange fnExactBandTimesSpec)

/-- ITS FALSE NEIGHBOUR: 'it returns false'. Refute it at one input. -/
def fnExactBandTimesWrong : ChangeSpec := { name := "fnExactBandTimes", fn := fun _ => fun
  | [d1, d2] => { results := [.lit (.bool false)], args := [d1, d2] }
  | _ => none }
def FnExactBandTimesWrongFalsely : Prop := fnExactBandTimesRow.holds Try.pinned (OpenSpec.ofChange fnExactBandTimesWrong)

/-- 'laws.FnExactPowBand': WHATEVER THE INPUT: true; the input reads as it did. -/
def fnExactPowBandSpec : ChangeSpec := { name := "fnExactPowBand", fn := fun _ => fun
  | [d1, d2] => { results := [.lit (.bool true)], args := [d1, d2] }
  | _ => none }
def fnExactPowBandRow : OpenClaim := { program := "ytnfnphhimbmghaa", sum := "f9748477a7d8a0a691e02399eb0ab5c729a754cfbd33400228ea86a942d7f63a", func := "loop.example/g00980/laws.FnExactPowBand", spec := "fnExactPowBand", apart := false }
def FnExactPowBandSaid : Prop := fnExactPowBandRow.holds Try.pinned (OpenSpec.ofChange fnExactPowBandSpec)

/-- ITS FALSE NEIGHBOUR: 'it returns false'. Refute it at one input. -/
def fnExactPowBandWrong : ChangeSpec := { name := "fnExactPowBand", fn := fun _ => fun
  | [d1, d2] => { results := [.lit (.bool false)], args := [d1, d2] }
  | _ => none }
def FnExactPowBandWrongFalsely : Prop := fnExactPowBandRow.holds Try.pinned (OpenSpec.ofChange fnExactPowBandWrong)

/- THE SECOND FORM. 'bulk': how many values and letters a reading holds, each counted each time it is reached (what is shared counts as often as it is met; a slice's spare places count too). A statement '..UptoSaid' is the law's where the arguments, and the package variables that the reading takes, are together of bulk at most 1048576: NARROWER than '..Said'. Prove '..Said' where nothing that the law and all that it calls make is longer than what came in: it says more and counts as full. Else prove '..UptoSaid'. A law counts once. -/
mutual
def uptoBulk {H : Type} : DataW H → Nat
  | .lit (.string bytes) => bytes.length + 1
  | .lit _ => 1
  | .nil => 1
  | .ptr d => uptoBulk d + 1
  | .slice elems spare => uptoBulkAll elems + uptoBulkAll spare + 1
  | .agg parts => uptoBulkAll parts + 1
  | .iface _ d => uptoBulk d + 1
  | .map entries => uptoBulkEntries entries + 1
  | .held _ => 1
def uptoBulkAll {H : Type} : List (DataW H) → Nat
  | [] => 0
  | d :: r => uptoBulk d + uptoBulkAll r
def uptoBulkEntries {H : Type} : List (Lit × DataW H) → Nat
  | [] => 0
  | x :: r => uptoBulkEntry x + uptoBulkEntries r
def uptoBulkEntry {H : Type} : Lit × DataW H → Nat
  | (.string bytes, d) => bytes.length + uptoBulk d + 1
  | (_, d) => uptoBulk d + 1
 end
def uptoSmall : (H : Type) → List (DataW H) → Bool := fun _ ds => decide (uptoBulkAll ds ≤ 1048576)
def OpenSpec.upto (s : _root_.Go.ChangeSpec) : _root_.Go.OpenSpec := { _root_.Go.OpenSpec.ofChange s with cond := some uptoSmall }

/-- 'laws.FnExactBandOk', WHERE WHAT IT READS IS OF BULK AT MOST 1048576: true; the input reads as it did. -/
def fnExactBandOkUptoRow : OpenClaim := { program := "ytnfnphhimbmghaa", sum := "f9748477a7d8a0a691e02399eb0ab5c729a754cfbd33400228ea86a942d7f63a", func := "loop.example/g00980/laws.FnExactBandOk", spec := "fnExactBandOk", apart := false, narrowed := true }
def FnExactBandOkUptoSaid : Prop := fnExactBandOkUptoRow.holds Try.pinned (OpenSpec.upto fnExactBandOkSpec)

/-- 'laws.FnExactBandWithin', WHERE WHAT IT READS IS OF BULK AT MOST 1048576: true; the input reads as it did. -/
def fnExactBandWithinUptoRow : OpenClaim := { program := "ytnfnphhimbmghaa", sum := "f9748477a7d8a0a691e02399eb0ab5c729a754cfbd33400228ea86a942d7f63a", func := "loop.example/g00980/laws.FnExactBandWithin", spec := "fnExactBandWithin", apart := false, narrowed := true }
def FnExactBandWithinUptoSaid : Prop := fnExactBandWithinUptoRow.holds Try.pinned (OpenSpec.upto fnExactBandWithinSpec)

/-- 'laws.FnExactTransferValue', WHERE WHAT IT READS IS OF BULK AT MOST 1048576: true; the input reads as it did. -/
def fnExactTransferValueUptoRow : OpenClaim := { program := "ytnfnphhimbmghaa", sum := "f9748477a7d8a0a691e02399eb0ab5c729a754cfbd33400228ea86a942d7f63a", func := "loop.example/g00980/laws.FnExactTransferValue", spec := "fnExactTransferValue", apart := false, narrowed := true }
def FnExactTransferValueUptoSaid : Prop := fnExactTransferValueUptoRow.holds Try.pinned (OpenSpec.upto fnExactTransferValueSpec)

/-- 'laws.FnExactBandOf', WHERE WHAT IT READS IS OF BULK AT MOST 1048576: true; the input reads as it did. -/
def fnExactBandOfUptoRow : OpenClaim := { program := "ytnfnphhimbmghaa", sum := "f9748477a7d8a0a691e02399eb0ab5c729a754cfbd33400228ea86a942d7f63a", func := "loop.example/g00980/laws.FnExactBandOf", spec := "fnExactBandOf", apart := false, narrowed := true }
def FnExactBandOfUptoSaid : Prop := fnExactBandOfUptoRow.holds Try.pinned (OpenSpec.upto fnExactBandOfSpec)

/-- 'laws.FnExactBandHas', WHERE WHAT IT READS IS OF BULK AT MOST 1048576: true; the input reads as it did. -/
def fnExactBandHasUptoRow : OpenClaim := { program := "ytnfnphhimbmghaa", sum := "f9748477a7d8a0a691e02399eb0ab5c729a754cfbd33400228ea86a942d7f63a", func := "loop.example/g00980/laws.FnExactBandHas", spec := "fnExactBandHas", apart := false, narrowed := true }
def FnExactBandHasUptoSaid : Prop := fnExactBandHasUptoRow.holds Try.pinned (OpenSpec.upto fnExactBandHasSpec)

/-- 'laws.FnExactStatusAfter', WHERE WHAT IT READS IS OF BULK AT MOST 1048576: true; the input reads as it did. -/
def fnExactStatusAfterUptoRow : OpenClaim := { program := "ytnfnphhimbmghaa", sum := "f9748477a7d8a0a691e02399eb0ab5c729a754cfbd33400228ea86a942d7f63a", func := "loop.example/g00980/laws.FnExactStatusAfter", spec := "fnExactStatusAfter", apart := false, narrowed := true }
def FnExactStatusAfterUptoSaid : Prop := fnExactStatusAfterUptoRow.holds Try.pinned (OpenSpec.upto fnExactStatusAfterSpec)

/-- 'laws.FnExactReserveFor', WHERE WHAT IT READS IS OF BULK AT MOST 1048576: true; the input reads as it did. -/
def fnExactReserveForUptoRow : OpenClaim := { program := "ytnfnphhimbmghaa", sum := "f9748477a7d8a0a691e02399eb0ab5c729a754cfbd33400228ea86a942d7f63a", func := "loop.example/g00980/laws.FnExactReserveFor", spec := "fnExactReserveFor", apart := false, narrowed := true }
def FnExactReserveForUptoSaid : Prop := fnExactReserveForUptoRow.holds Try.pinned (OpenSpec.upto fnExactReserveForSpec)

/-- 'laws.FnExactBandMul', WHERE WHAT IT READS IS OF BULK AT MOST 1048576: true; the input reads as it did. -/
def fnExactBandMulUptoRow : OpenClaim := { program := "ytnfnphhimbmghaa", sum := "f9748477a7d8a0a691e02399eb0ab5c729a754cfbd33400228ea86a942d7f63a", func := "loop.example/g00980/laws.FnExactBandMul", spec := "fnExactBandMul", apart := false, narrowed := true }
def FnExactBandMulUptoSaid : Prop := fnExactBandMulUptoRow.holds Try.pinned (OpenSpec.upto fnExactBandMulSpec)

/-- 'laws.FnExactDiscountBand', WHERE WHAT IT READS IS OF BULK AT MOST 1048576: true; the input reads as it did. -/
def fnExactDiscountBandUptoRow : OpenClaim := { program := "ytnfnphhimbmghaa", sum := "f9748477a7d8a0a691e02399eb0ab5c729a754cfbd33400228ea86a942d7f63a", func := "loop.example/g00980/laws.FnExactDiscountBand", spec := "fnExactDiscountBand", apart := false, narrowed := true }
def FnExactDiscountBandUptoSaid : Prop := fnExactDiscountBandUptoRow.holds Try.pinned (OpenSpec.upto fnExactDiscountBandSpec)

/-- 'laws.FnExactBandAdd', WHERE WHAT IT READS IS OF BULK AT MOST 1048576: true; the input reads as it did. -/
def fnExactBandAddUptoRow : OpenClaim := { program := "ytnfnphhimbmghaa", sum := "f9748477a7d8a0a691e02399eb0ab5c729a754cfbd33400228ea86a942d7f63a", func := "loop.example/g00980/laws.FnExactBandAdd", spec := "fnExactBandAdd", apart := false, narrowed := true }
def FnExactBandAddUptoSaid : Prop := fnExactBandAddUptoRow.holds Try.pinned (OpenSpec.upto fnExactBandAddSpec)

/-- 'laws.FnExactBandTimes', WHERE WHAT IT READS IS OF BULK AT MOST 1048576: true; the input reads as it did. -/
def fnExactBandTimesUptoRow : OpenClaim := { program := "ytnfnphhimbmghaa", sum := "f9748477a7d8a0a691e02399eb0ab5c729a754cfbd33400228ea86a942d7f63a", func := "loop.example/g00980/laws.FnExactBandTimes", spec := "fnExactBandTimes", apart := false, narrowed := true }
def FnExactBandTimesUptoSaid : Prop := fnExactBandTimesUptoRow.holds Try.pinned (OpenSpec.upto fnExactBandTimesSpec)

/-- 'laws.FnExactPowBand', WHERE WHAT IT READS IS OF BULK AT MOST 1048576: true; the input reads as it did. -/
def fnExactPowBandUptoRow : OpenClaim := { program := "ytnfnphhimbmghaa", sum := "f9748477a7d8a0a691e02399eb0ab5c729a754cfbd33400228ea86a942d7f63a", func := "loop.example/g00980/laws.FnExactPowBand", spec := "fnExactPowBand", apart := false, narrowed := true }
def FnExactPowBandUptoSaid : Prop := fnExactPowBandUptoRow.holds Try.pinned (OpenSpec.upto fnExactPowBandSpec)

end Rows
end Go.Proofs.Ytnfnphhimbmghaa
