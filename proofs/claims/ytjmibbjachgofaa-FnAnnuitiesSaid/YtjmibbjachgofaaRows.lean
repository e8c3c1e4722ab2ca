/-
  No cell of these rows narrows 'for every input' (looked for: loops, veiled, ifaces, maps, wideKeys, modest, calm, conditions, laid).
  DERIVED. THE GIVEN ROWS OF THIS SEAT. 12 by the template 'for every input the law returns true; each argument reads behind the call as it read before'; 0 by the template 'total and deterministic' (their statements: YtjmibbjachgofaaTotals.lean).
  GIVEN WITH THE SEED: the statements are not yours to turn. If you find one false, say at which input.
  Laid BY PROGRAM, IN A SANDBOX (cutbox-rows.mjs): the forced cells as the released guide's own fill.sh prints them over the translation 912528f4ef5f0cb1… (all of the seat's roots in one cut). By AI agents, Wed Nov 11 2026. No macro, syntax, notation, axiom, sorry.
-/
import Derived.Test.YtjmibbjachgofaaChecked
import GoSem.Claim
import GoSem.ClaimJoined
import GoSem.ClaimMapViews
import Derived.JoinedTies
import Derived.KernelRfl
namespace Go.Proofs.Ytjmibbjachgofaa
/- THE CELL 'sum', in the pinned program and in every row, IS THE sha256 OF THE DUMP (.gsa) THAT YtjmibbjachgofaaProg.lean LOADS. Nothing in Lean hashes anything: it is a label: what it is worth is what the hold of that sum in a sandbox is worth. -/
noncomputable def Try.pinned : Pinned := { name := "ytjmibbjachgofaa", sum := "912528f4ef5f0cb1d3dc71ecda7a5e8a75159711fe833df9e2e96eb1dee40fda", checked := Try.checked }
namespace Rows
def none {H : Type} : Left H := { results := [], args := [] }

/-- 'laws.FnReserved': WHATEVER THE INPUT: true; the input reads as it did. -/
def fnReservedSpec : ChangeSpec := { name := "fnReserved", fn := fun _ => fun
  | [d] => { results := [.lit (.bool true)], args := [d] }
  | _ => none }
def fnReservedRow : OpenClaim := { program := "ytjmibbjachgofaa", sum := "912528f4ef5f0cb1d3dc71ecda7a5e8a75159711fe833df9e2e96eb1dee40fda", func := "loop.example/g00980/laws.FnReserved", spec := "fnReserved", apart := false }
def FnReservedSaid : Prop := fnReservedRow.holds Try.pinned (OpenSpec.ofChange fnReservedSpec)

/-- ITS FALSE NEIGHBOUR: 'it returns false'. Refute it at one input. -/
def fnReservedWrong : ChangeSpec := { name := "fnReserved", fn := fun _ => fun
  | [d] => { results := [.lit (.bool false)], args := [d] }
  | _ => none }
def FnReservedWrongFalsely : Prop := fnReservedRow.holds Try.pinned (OpenSpec.ofChange fnReservedWrong)

/-- 'laws.FnMiddle': WHATEVER THE INPUT: true; the input reads as it did. -/
def fnMiddleSpec : ChangeSpec := { name := "fnMiddle", fn := fun _ => fun
  | [d] => { results := [.lit (.bool true)], args := [d] }
  | _ => none }
def fnMiddleRow : OpenClaim := { program := "ytjmibbjachgofaa", sum := "912528f4ef5f0cb1d3dc71ecda7a5e8a75159711fe833df9e2e96eb1dee40fda", func := "loop.example/g00980/laws.FnMiddle", spec := "fnMiddle", apart := false }
def FnMiddleSaid : Prop := fnMiddleRow.holds Try.pinned (OpenSpec.ofChange fnMiddleSpec)

/-- ITS FALSE NEIGHBOUR: 'it returns false'. Refute it at one input. -/
def fnMiddleWrong : ChangeSpec := { name := "fnMiddle", fn := fun _ => fun
  | [d] => { results := [.lit (.bool false)], args := [d] }
  | _ => none }
def FnMiddleWrongFalsely : Prop := fnMiddleRow.holds Try.pinned (OpenSpec.ofChange fnMiddleWrong)

/-- 'laws.FnPowers': WHATEVER THE INPUT: true; the input reads as it did. -/
def fnPowersSpec : ChangeSpec := { name := "fnPowers", fn := fun _ => fun
  | [d] => { results := [.lit (.bool true)], args := [d] }
  | _ => none }
def fnPowersRow : OpenClaim := { program := "ytjmibbjachgofaa", sum := "912528f4ef5f0cb1d3dc71ecda7a5e8a75159711fe833df9e2e96eb1dee40fda", func := "loop.example/g00980/laws.FnPowers", spec := "fnPowers", apart := false }
def FnPowersSaid : Prop := fnPowersRow.holds Try.pinned (OpenSpec.ofChange fnPowersSpec)

/-- ITS FALSE NEIGHBOUR: 'it returns false'. Refute it at one input. -/
def fnPowersWrong : ChangeSpec := { name := "fnPowers", fn := fun _ => fun
  | [d] => { results := [.lit (.bool false)], args := [d] }
  | _ => none }
def FnPowersWrongFalsely : Prop := fnPowersRow.holds Try.pinned (OpenSpec.ofChange fnPowersWrong)

/-- 'laws.FnBounds': WHATEVER THE INPUT: true; the input reads as it did. -/
def fnBoundsSpec : ChangeSpec := { name := "fnBounds", fn := fun _ => fun
  | [d] => { results := [.lit (.bool true)], args := [d] }
  | _ => none }
def fnBoundsRow : OpenClaim := { program := "ytjmibbjachgofaa", sum := "912528f4ef5f0cb1d3dc71ecda7a5e8a75159711fe833df9e2e96eb1dee40fda", func := "loop.example/g00980/laws.FnBounds", spec := "fnBounds", apart := false }
def FnBoundsSaid : Prop := fnBoundsRow.holds Try.pinned (OpenSpec.ofChange fnBoundsSpec)

/-- ITS FALSE NEIGHBOUR: 'it returns false'. Refute it at one input. -/
def fnBoundsWrong : ChangeSpec := { name := "fnBounds", fn := fun _ => fun
  | [d] => { results := [.lit (.bool false)], args := [d] }
  | _ => none }
def FnBoundsWrongFalsely : Prop := fnBoundsRow.holds Try.pinned (OpenSpec.ofChange fnBoundsWrong)

/-- 'laws.FnTables': WHATEVER THE INPUT: true; the input reads as it did. -/
def fnTablesSpec : ChangeSpec := { name := "fnTables", fn := fun _ => fun
  | [d] => { results := [.lit (.bool true)], args := [d] }
  | _ => none }
def fnTablesRow : OpenClaim := { program := "ytjmibbjachgofaa", sum := "912528f4ef5f0cb1d3dc71ecda7a5e8a75159711fe833df9e2e96eb1dee40fda", func := "loop.example/g00980/laws.FnTables", spec := "fnTables", unfollowed := true, recurses := true, apart := false }
def FnTablesSaid : Prop := fnTablesRow.holds Try.pinned (OpenSpec.ofChange fnTablesSpec)

/-- ITS FALSE NEIGHBOUR: 'it returns false'. Refute it at one input. -/
def fnTablesWrong : ChangeSpec := { name := "fnTables", fn := fun _ => fun
  | [d] => { results := [.lit (.bool false)], args := [d] }
  | _ => none }
def FnTablesWrongFalsely : Prop := fnTablesRow.holds Try.pinned (OpenSpec.ofChange fnTablesWrong)

/-- 'laws.FnSurviving': WHATEVER THE INPUT: true; the input reads as it did. -/
def fnSurvivingSpec : ChangeSpec := { name := "fnSurviving", fn := fun _ => fun
  | [d] => { results := [.lit (.bool true)], args := [d] }
  | _ => none }
def fnSurvivingRow : OpenClaim := { program := "ytjmibbjachgofaa", sum := "912528f4ef5f0cb1d3dc71ecda7a5e8a75159711fe833df9e2e96eb1dee40fda", func := "loop.example/g00980/laws.FnSurviving", spec := "fnSurviving", unfollowed := true, recurses := true, apart := false }
def FnSurvivingSaid : Prop := fnSurvivingRow.holds Try.pinned (OpenSpec.ofChange fnSurvivingSpec)

/-- ITS FALSE NEIGHBOUR: 'it returns false'. Refute it at one input. -/
def fnSurvivingWrong : ChangeSpec := { name := "fnSurviving", fn := fun _ => fun
  | [d] => { results := [.lit (.bool false)], args := [d] }
  | _ => none }
def FnSurvivingWrongFalsely : Prop := fnSurvivingRow.holds Try.pinned (OpenSpec.ofChange fnSurvivingWrong)

/-- 'laws.FnAnnuities': WHATEVER THE INPUT: true; the input reads as it did. -/
def fnAnnuitiesSpec : ChangeSpec := { name := "fnAnnuities", fn := fun _ => fun
  | [d] => { results := [.lit (.bool true)], args := [d] }
  | _ => none }
def fnAnnuitiesRow : OpenClaim := { program := "ytjmibbjachgofaa", sum := "912528f4ef5f0cb1d3dc71ecda7a5e8a75159711fe833df9e2e96eb1dee40fda", func := "loop.example/g00980/laws.FnAnnuities", spec := "fnAnnuities", unfollowed := true, recurses := true, apart := false }
def FnAnnuitiesSaid : Prop := fnAnnuitiesRow.holds Try.pinned (OpenSpec.ofChange fnAnnuitiesSpec)

/-- ITS FALSE NEIGHBOUR: 'it returns false'. Refute it at one input. -/
def fnAnnuitiesWrong : ChangeSpec := { name := "fnAnnuities", fn := fun _ => fun
  | [d] => { results := [.lit (.bool false)], args := [d] }
  | _ => none }
def FnAnnuitiesWrongFalsely : Prop := fnAnnuitiesRow.holds Try.pinned (OpenSpec.ofChange fnAnnuitiesWrong)

/-- 'laws.FnExactSurvivors': WHATEVER THE INPUT: true; the input reads as it did. -/
def fnExactSurvivorsSpec : ChangeSpec := { name := "fnExactSurvivors", fn := fun _ => fun
  | [d1, d2, d3, d4] => { results := [.lit (.bool true)], args := [d1, d2, d3, d4] }
  | _ => none }
def fnExactSurvivorsRow : OpenClaim := { program := "ytjmibbjachgofaa", sum := "912528f4ef5f0cb1d3dc71ecda7a5e8a75159711fe833df9e2e96eb1dee40fda", func := "loop.example/g00980/laws.FnExactSurvivors", spec := "fnExactSurvivors", unfollowed := true, recurses := true, apart := false }
def FnExactSurvivorsSaid : Prop := fnExactSurvivorsRow.holds Try.pinned (OpenSpec.ofChange fnExactSurvivorsSpec)

/-- ITS FALSE NEIGHBOUR: 'it returns false'. Refute it at one input. -/
def fnExactSurvivorsWrong : ChangeSpec := { name := "fnExactSurvivors", fn := fun _ => fun
  | [d1, d2, d3, d4] => { results := [.lit (.bool false)], args := [d1, d2, d3, d4] }
  | _ => none }
def FnExactSurvivorsWrongFalsely : Prop := fnExactSurvivorsRow.holds Try.pinned (OpenSpec.ofChange fnExactSurvivorsWrong)

/-- 'laws.FnExactLifeExpectancy': WHATEVER THE INPUT: true; the input reads as it did. -/
def fnExactLifeExpectancySpec : ChangeSpec := { name := "fnExactLifeExpectancy", fn := fun _ => fun
  | [d1, d2] => { results := [.lit (.bool true)], args := [d1, d2] }
  | _ => none }
def fnExactLifeExpectancyRow : OpenClaim := { program := "ytjmibbjachgofaa", sum := "912528f4ef5f0cb1d3dc71ecda7a5e8a75159711fe833df9e2e96eb1dee40fda", func := "loop.example/g00980/laws.FnExactLifeExpectancy", spec := "fnExactLifeExpectancy", unfollowed := true, recurses := true, apart := false }
def FnExactLifeExpectancySaid : Prop := fnExactLifeExpectancyRow.holds Try.pinned (OpenSpec.ofChange fnExactLifeExpectancySpec)

/-- ITS FALSE NEIGHBOUR: 'it returns false'. Refute it at one input. -/
def fnExactLifeExpectancyWrong : ChangeSpec := { name := "fnExactLifeExpectancy", fn := fun _ => fun
  | [d1, d2] => { results := [.lit (.bool false)], args := [d1, d2] }
  | _ => none }
def FnExactLifeExpectancyWrongFalsely : Prop := fnExactLifeExpectancyRow.holds Try.pinned (OpenSpec.ofChange fnExactLifeExpectancyWrong)

/-- 'laws.FnExactImprove': WHATEVER THE INPUT: true; the input reads as it did. -/
def fnExactImproveSpec : ChangeSpec := { name := "fnExactImprove", fn := fun _ => fun
  | [d1, d2, d3] => { results := [.lit (.bool true)], args := [d1, d2, d3] }
  | _ => none }
def fnExactImproveRow : OpenClaim := { program := "ytjmibbjachgofaa", sum := "912528f4ef5f0cb1d3dc71ecda7a5e8a75159711fe833df9e2e96eb1dee40fda", func := "loop.example/g00980/laws.FnExactImprove", spec := "fnExactImprove", unfollowed := true, recurses := true, apart := false }
def FnExactImproveSaid : Prop := fnExactImproveRow.holds Try.pinned (OpenSpec.ofChange fnExactImproveSpec)

/-- ITS FALSE NEIGHBOUR: 'it returns false'. Refute it at one input. -/
def fnExactImproveWrong : ChangeSpec := { name := "fnExactImprove", fn := fun _ => fun
  | [d1, d2, d3] => { results := [.lit (.bool false)], args := [d1, d2, d3] }
  | _ => none }
def FnExactImproveWrongFalsely : Prop := fnExactImproveRow.holds Try.pinned (OpenSpec.ofChange fnExactImproveWrong)

/-- 'laws.FnExactAnnuityBand': WHATEVER THE INPUT: true; the input reads as it did. -/
def fnExactAnnuityBandSpec : ChangeSpec := { name := "fnExactAnnuityBand", fn := fun _ => fun
  | [d1, d2, d3, d4] => { results := [.lit (.bool true)], args := [d1, d2, d3, d4] }
  | _ => none }
def fnExactAnnuityBandRow : OpenClaim := { program := "ytjmibbjachgofaa", sum := "912528f4ef5f0cb1d3dc71ecda7a5e8a75159711fe833df9e2e96eb1dee40fda", func := "loop.example/g00980/laws.FnExactAnnuityBand", spec := "fnExactAnnuityBand", unfollowed := true, recurses := true, apart := false }
def FnExactAnnuityBandSaid : Prop := fnExactAnnuityBandRow.holds Try.pinned (OpenSpec.ofChange fnExactAnnuityBandSpec)

/-- ITS FALSE NEIGHBOUR: 'it returns false'. Refute it at one input. -/
def fnExactAnnuityBandWrong : ChangeSpec := { name := "fnExactAnnuityBand", fn := fun _ => fun
  | [d1, d2, d3, d4] => { results := [.lit (.bool false)], args := [d1, d2, d3, d4] }
  | _ => none }
def FnExactAnnuityBandWrongFalsely : Prop := fnExactAnnuityBandRow.holds Try.pinned (OpenSpec.ofChange fnExactAnnuityBandWrong)

/-- 'laws.FnExactWholeBand': WHATEVER THE INPUT: true; the input reads as it did. -/
def fnExactWholeBandSpec : ChangeSpec := { name := "fnExactWholeBand", fn := fun _ => fun
  | [d1, d2, d3, d4] => { results := [.lit (.bool true)], args := [d1, d2, d3, d4] }
  | _ => none }
def fnExactWholeBandRow : OpenClaim := { program := "ytjmibbjachgofaa", sum := "912528f4ef5f0cb1d3dc71ecda7a5e8a75159711fe833df9e2e96eb1dee40fda", func := "loop.example/g00980/laws.FnExactWholeBand", spec := "fnExactWholeBand", unfollowed := true, recurses := true, apart := false }
def FnExactWholeBandSaid : Prop := fnExactWholeBandRow.holds Try.pinned (OpenSpec.ofChange fnExactWholeBandSpec)

/-- ITS FALSE NEIGHBOUR: 'it returns false'. Refute it at one input. -/
def fnExactWholeBandWrong : ChangeSpec := { name := "fnExactWholeBand", fn := fun _ => fun
  | [d1, d2, d3, d4] => { results := [.lit (.bool false)], args := [d1, d2, d3, d4] }
  | _ => none }
def FnExactWholeBandWrongFalsely : Prop := fnExactWholeBandRow.holds Try.pinned (OpenSpec.ofChange fnExactWholeBandWrong)

/- THE SECOND FORM. 'bulk': how many values and letters a reading holds, each counted each time it is reached (what is shared counts as often as it is met; a slice's spare places count too). A statement '..UptoSaid' is the law's where the arguments, and the package variables that the reading takes, are together of bulk at most 1048576: NARROWER than '..Said'. Prove '..Said' where nothing that the law and all that it calls make is longer than what came in: it says more and counts as full. Else prove '..UptoSaid'. A law counts once. -/
mutual
def uptoBulk {H : Type} : DataW H → Nat
  | .lit (.string bytes) => bytes.length + 1
  | .lit _ => 1
  | .nil => 1
  | .ptr d => uptoBulk d + 1
  | .slice elems spare => uptoBulkAll elems + uptoBulkAll spare + 1
  | .agg parts => uptoBulkAll parts + 1
  | .iface _ d => uptoBulk d + 1
  | .map entries => uptoBulkEntries entries + 1
  | .held _ => 1
def uptoBulkAll {H : Type} : List (DataW H) → Nat
  | [] => 0
  | d :: r => uptoBulk d + uptoBulkAll r
def uptoBulkEntries {H : Type} : List (Lit × DataW H) → Nat
  | [] => 0
  | x :: r => uptoBulkEntry x + uptoBulkEntries r
def uptoBulkEntry {H : Type} : Lit × DataW H → Nat
  | (.string bytes, d) => bytes.length + uptoBulk d + 1
  | (_, d) => uptoBulk d + 1
 end
def uptoSmall : (H : Type) → List (DataW H) → Bool := fun _ ds => decide (uptoBulkAll ds ≤ 1048576)
def OpenSpec.upto (s : _root_.Go.ChangeSpec) : _root_.Go.OpenSpec := { _root_.Go.OpenSpec.ofChange s with cond := some uptoSmall }

/-- 'laws.FnReserved', WHERE WHAT IT READS IS OF BULK AT MOST 1048576: true; the input reads as it did. -/
def fnReservedUptoRow : OpenClaim := { program := "ytjmibbjachgofaa", sum := "912528f4ef5f0cb1d3dc71ecda7a5e8a75159711fe833df9e2e96eb1dee40fda", func := "loop.example/g00980/laws.FnReserved", spec := "fnReserved", apart := false, narrowed := true }
def FnReservedUptoSaid : Prop := fnReservedUptoRow.holds Try.pinned (OpenSpec.upto fnReservedSpec)

/-- 'laws.FnMiddle', WHERE WHAT IT READS IS OF BULK AT MOST 1048576: true; the input reads as it did. -/
def fnMiddleUptoRow : OpenClaim := { program := "ytjmibbjachgofaa", sum := "912528f4ef5f0cb1d3dc71ecda7a5e8a75159711fe833df9e2e96eb1dee40fda", func := "loop.example/g00980/laws.FnMiddle", spec := "fnMiddle", apart := false, narrowed := true }
def FnMiddleUptoSaid : Prop := fnMiddleUptoRow.holds Try.pinned (OpenSpec.upto fnMiddleSpec)

/-- 'laws.FnPowers', WHERE WHAT IT READS IS OF BULK AT MOST 1048576: true; the input reads as it did. -/
def fnPowersUptoRow : OpenClaim := { program := "ytjmibbjachgofaa", sum := "912528f4ef5f0cb1d3dc71ecda7a5e8a75159711fe833df9e2e96eb1dee40fda", func := "loop.example/g00980/laws.FnPowers", spec := "fnPowers", apart := false, narrowed := true }
def FnPowersUptoSaid : Prop := fnPowersUptoRow.holds Try.pinned (OpenSpec.upto fnPowersSpec)

/-- 'laws.FnBounds', WHERE WHAT IT READS IS OF BULK AT MOST 1048576: true; the input reads as it did. -/
def fnBoundsUptoRow : OpenClaim := { program := "ytjmibbjachgofaa", sum := "912528f4ef5f0cb1d3dc71ecda7a5e8a75159711fe833df9e2e96eb1dee40fda", func := "loop.example/g00980/laws.FnBounds", spec := "fnBounds", apart := false, narrowed := true }
def FnBoundsUptoSaid : Prop := fnBoundsUptoRow.holds Try.pinned (OpenSpec.upto fnBoundsSpec)

/-- 'laws.FnTables', WHERE WHAT IT READS IS OF BULK AT MOST 1048576: true; the input reads as it did. -/
def fnTablesUptoRow : OpenClaim := { program := "ytjmibbjachgofaa", sum := "912528f4ef5f0cb1d3dc71ecda7a5e8a75159711fe833df9e2e96eb1dee40fda", func := "loop.example/g00980/laws.FnTables", spec := "fnTables", unfollowed := true, recurses := true, apart := false, narrowed := true }
def FnTablesUptoSaid : Prop := fnTablesUptoRow.holds Try.pinned (OpenSpec.upto fnTablesSpec)

/-- 'laws.FnSurviving', WHERE WHAT IT READS IS OF BULK AT MOST 1048576: true; the input reads as it did. -/
def fnSurvivingUptoRow : OpenClaim := { program := "ytjmibbjachgofaa", sum := "912528f4ef5f0cb1d3dc71ecda7a5e8a75159711fe833df9e2e96eb1dee40fda", func := "loop.example/g00980/laws.FnSurviving", spec := "fnSurviving", unfollowed := true, recurses := true, apart := false, narrowed := true }
def FnSurvivingUptoSaid : Prop := fnSurvivingUptoRow.holds Try.pinned (OpenSpec.upto fnSurvivingSpec)

/-- 'laws.FnAnnuities', WHERE WHAT IT READS IS OF BULK AT MOST 1048576: true; the input reads as it did. -/
def fnAnnuitiesUptoRow : OpenClaim := { program := "ytjmibbjachgofaa", sum := "912528f4ef5f0cb1d3dc71ecda7a5e8a75159711fe833df9e2e96eb1dee40fda", func := "loop.example/g00980/laws.FnAnnuities", spec := "fnAnnuities", unfollowed := true, recurses := true, apart := false, narrowed := true }
def FnAnnuitiesUptoSaid : Prop := fnAnnuitiesUptoRow.holds Try.pinned (OpenSpec.upto fnAnnuitiesSpec)

/-- 'laws.FnExactSurvivors', WHERE WHAT IT READS IS OF BULK AT MOST 1048576: true; the input reads as it did. -/
def fnExactSurvivorsUptoRow : OpenClaim := { program := "ytjmibbjachgofaa", sum := "912528f4ef5f0cb1d3dc71ecda7a5e8a75159711fe833df9e2e96eb1dee40fda", func := "loop.example/g00980/laws.FnExactSurvivors", spec := "fnExactSurvivors", unfollowed := true, recurses := true, apart := false, narrowed := true }
def FnExactSurvivorsUptoSaid : Prop := fnExactSurvivorsUptoRow.holds Try.pinned (OpenSpec.upto fnExactSurvivorsSpec)

/-- 'laws.FnExactLifeExpectancy', WHERE WHAT IT READS IS OF BULK AT MOST 1048576: true; the input reads as it did. -/
def fnExactLifeExpectancyUptoRow : OpenClaim := { program := "ytjmibbjachgofaa", sum := "912528f4ef5f0cb1d3dc71ecda7a5e8a75159711fe833df9e2e96eb1dee40fda", func := "loop.example/g00980/laws.FnExactLifeExpectancy", spec := "fnExactLifeExpectancy", unfollowed := true, recurses := true, apart := false, narrowed := true }
def FnExactLifeExpectancyUptoSaid : Prop := fnExactLifeExpectancyUptoRow.holds Try.pinned (OpenSpec.upto fnExactLifeExpectancySpec)

/-- 'laws.FnExactImprove', WHERE WHAT IT READS IS OF BULK AT MOST 1048576: true; the input reads as it did. -/
def fnExactImproveUptoRow : OpenClaim := { program := "ytjmibbjachgofaa", sum := "912528f4ef5f0cb1d3dc71ecda7a5e8a75159711fe833df9e2e96eb1dee40fda", func := "loop.example/g00980/laws.FnExactImprove", spec := "fnExactImprove", unfollowed := true, recurses := true, apart := false, narrowed := true }
def FnExactImproveUptoSaid : Prop := fnExactImproveUptoRow.holds Try.pinned (OpenSpec.upto fnExactImproveSpec)

/-- 'laws.FnExactAnnuityBand', WHERE WHAT IT READS IS OF BULK AT MOST 1048576: true; the input reads as it did. -/
def fnExactAnnuityBandUptoRow : OpenClaim := { program := "ytjmibbjachgofaa", sum := "912528f4ef5f0cb1d3dc71ecda7a5e8a75159711fe833df9e2e96eb1dee40fda", func := "loop.example/g00980/laws.FnExactAnnuityBand", spec := "fnExactAnnuityBand", unfollowed := true, recurses := true, apart := false, narrowed := true }
def FnExactAnnuityBandUptoSaid : Prop := fnExactAnnuityBandUptoRow.holds Try.pinned (OpenSpec.upto fnExactAnnuityBandSpec)

/-- 'laws.FnExactWholeBand', WHERE WHAT IT READS IS OF BULK AT MOST 1048576: true; the input reads as it did. -/
def fnExactWholeBandUptoRow : OpenClaim := { program := "ytjmibbjachgofaa", sum := "912528f4ef5f0cb1d3dc71ecda7a5e8a75159711fe833df9e2e96eb1dee40fda", func := "loop.example/g00980/laws.FnExactWholeBand", spec := "fnExactWholeBand", unfollowed := true, recurses := true, apart := false, narrowed := true }
def FnExactWholeBandUptoSaid : Prop := fnExactWholeBandUptoRow.holds Try.pinned (OpenSpec.upto fnExactWholeBandSpec)

end Rows
end Go.Proofs.Ytjmibbjachgofaa
