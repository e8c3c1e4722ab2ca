/-
  No cell of these rows narrows 'for every input' (looked for: loops, veiled, ifaces, maps, wideKeys, modest, calm, conditions, laid).
  DERIVED. THE GIVEN ROWS OF THIS SEAT. 13 by the template 'for every input the law returns true; each argument reads behind the call as it read before'; 0 by the template 'total and deterministic' (their statements: YtogoddbkamgndaaTotals.lean).
  GIVEN WITH THE SEED: the statements are not yours to turn. If you find one false, say at which input.
  Laid BY PROGRAM, IN A SANDBOX (cutbox-rows.mjs): the forced cells as the released guide's own fill.sh prints them over the translation 76d30ce2dc9b0af0… (all of the seat's roots in one cut). By AI agents, Wed Nov 11 2026. No macro, syntax, notation, axiom, sorry.
-/
import Derived.Test.YtogoddbkamgndaaChecked
import GoSem.Claim
import GoSem.ClaimJoined
import GoSem.ClaimMapViews
import Derived.JoinedTies
import Derived.KernelRfl
namespace Go.Proofs.Ytogoddbkamgndaa
/- THE CELL 'sum', in the pinned program and in every row, IS THE sha256 OF THE DUMP (.gsa) THAT YtogoddbkamgndaaProg.lean LOADS. Nothing in Lean hashes anything: it is a label: what it is worth is what the hold of that sum in a sandbox is worth. -/
noncomputable def Try.pinned : Pinned := { name := "ytogoddbkamgndaa", sum := "76d30ce2dc9b0af091528ab2a132d49455e575dff5250917f3e524edec6c3079", checked := Try.checked }
namespace Rows
def none {H : Type} : Left H := { results := [], args := [] }

/-- 'laws.FnExactStaysOk': WHATEVER THE INPUT: true; the input reads as it did. -/
def fnExactStaysOkSpec : ChangeSpec := { name := "fnExactStaysOk", fn := fun _ => fun
  | [d] => { results := [.lit (.bool true)], args := [d] }
  | _ => none }
def fnExactStaysOkRow : OpenClaim := { program := "ytogoddbkamgndaa", sum := "76d30ce2dc9b0af091528ab2a132d49455e575dff5250917f3e524edec6c3079", func := "loop.example/g00980/laws.FnExactStaysOk", spec := "fnExactStaysOk", apart := false }
def FnExactStaysOkSaid : Prop := fnExactStaysOkRow.holds Try.pinned (OpenSpec.ofChange fnExactStaysOkSpec)

/-- ITS FALSE NEIGHBOUR: 'it returns false'. Refute it at one input. -/
def fnExactStaysOkWrong : ChangeSpec := { name := "fnExactStaysOk", fn := fun _ => fun
  | [d] => { results := [.lit (.bool false)], args := [d] }
  | _ => none }
def FnExactStaysOkWrongFalsely : Prop := fnExactStaysOkRow.holds Try.pinned (OpenSpec.ofChange fnExactStaysOkWrong)

/-- 'laws.FnExactMonthsInFund': WHATEVER THE INPUT: true; the input reads as it did. -/
def fnExactMonthsInFundSpec : ChangeSpec := { name := "fnExactMonthsInFund", fn := fun _ => fun
  | [d1, d2] => { results := [.lit (.bool true)], args := [d1, d2] }
  | _ => none }
def fnExactMonthsInFundRow : OpenClaim := { program := "ytogoddbkamgndaa", sum := "76d30ce2dc9b0af091528ab2a132d49455e575dff5250917f3e524edec6c3079", func := "loop.example/g00980/laws.FnExactMonthsInFund", spec := "fnExactMonthsInFund", apart := false }
def FnExactMonthsInFundSaid : Prop := fnExactMonthsInFundRow.holds Try.pinned (OpenSpec.ofChange fnExactMonthsInFundSpec)

/-- ITS FALSE NEIGHBOUR: 'it returns false'. Refute it at one input. -/
def fnExactMonthsInFundWrong : ChangeSpec := { name := "fnExactMonthsInFund", fn := fun _ => fun
  | [d1, d2] => { results := [.lit (.bool false)], args := [d1, d2] }
  | _ => none }
def FnExactMonthsInFundWrongFalsely : Prop := fnExactMonthsInFundRow.holds Try.pinned (OpenSpec.ofChange fnExactMonthsInFundWrong)

/-- 'laws.FnExactFundAt': WHATEVER THE INPUT: true; the input reads as it did. -/
def fnExactFundAtSpec : ChangeSpec := { name := "fnExactFundAt", fn := fun _ => fun
  | [d1, d2] => { results := [.lit (.bool true)], args := [d1, d2] }
  | _ => none }
def fnExactFundAtRow : OpenClaim := { program := "ytogoddbkamgndaa", sum := "76d30ce2dc9b0af091528ab2a132d49455e575dff5250917f3e524edec6c3079", func := "loop.example/g00980/laws.FnExactFundAt", spec := "fnExactFundAt", unfollowed := true, recurses := true, apart := false }
def FnExactFundAtSaid : Prop := fnExactFundAtRow.holds Try.pinned (OpenSpec.ofChange fnExactFundAtSpec)

/-- ITS FALSE NEIGHBOUR: 'it returns false'. Refute it at one input. -/
def fnExactFundAtWrong : ChangeSpec := { name := "fnExactFundAt", fn := fun _ => fun
  | [d1, d2] => { results := [.lit (.bool false)], args := [d1, d2] }
  | _ => none }
def FnExactFundAtWrongFalsely : Prop := fnExactFundAtRow.holds Try.pinned (OpenSpec.ofChange fnExactFundAtWrong)

/-- 'laws.FnFundMonths': WHATEVER THE INPUT: true; the input reads as it did. -/
def fnFundMonthsSpec : ChangeSpec := { name := "fnFundMonths", fn := fun _ => fun
  | [d] => { results := [.lit (.bool true)], args := [d] }
  | _ => none }
def fnFundMonthsRow : OpenClaim := { program := "ytogoddbkamgndaa", sum := "76d30ce2dc9b0af091528ab2a132d49455e575dff5250917f3e524edec6c3079", func := "loop.example/g00980/laws.FnFundMonths", spec := "fnFundMonths", unfollowed := true, recurses := true, apart := false }
def FnFundMonthsSaid : Prop := fnFundMonthsRow.holds Try.pinned (OpenSpec.ofChange fnFundMonthsSpec)

/-- ITS FALSE NEIGHBOUR: 'it returns false'. Refute it at one input. -/
def fnFundMonthsWrong : ChangeSpec := { name := "fnFundMonths", fn := fun _ => fun
  | [d] => { results := [.lit (.bool false)], args := [d] }
  | _ => none }
def FnFundMonthsWrongFalsely : Prop := fnFundMonthsRow.holds Try.pinned (OpenSpec.ofChange fnFundMonthsWrong)

/-- 'laws.FnExactMoveMoney': WHATEVER THE INPUT: true; the input reads as it did. -/
def fnExactMoveMoneySpec : ChangeSpec := { name := "fnExactMoveMoney", fn := fun _ => fun
  | [d1, d2, d3, d4] => { results := [.lit (.bool true)], args := [d1, d2, d3, d4] }
  | _ => none }
def fnExactMoveMoneyRow : OpenClaim := { program := "ytogoddbkamgndaa", sum := "76d30ce2dc9b0af091528ab2a132d49455e575dff5250917f3e524edec6c3079", func := "loop.example/g00980/laws.FnExactMoveMoney", spec := "fnExactMoveMoney", unfollowed := true, recurses := true, apart := false }
def FnExactMoveMoneySaid : Prop := fnExactMoveMoneyRow.holds Try.pinned (OpenSpec.ofChange fnExactMoveMoneySpec)

/-- ITS FALSE NEIGHBOUR: 'it returns false'. Refute it at one input. -/
def fnExactMoveMoneyWrong : ChangeSpec := { name := "fnExactMoveMoney", fn := fun _ => fun
  | [d1, d2, d3, d4] => { results := [.lit (.bool false)], args := [d1, d2, d3, d4] }
  | _ => none }
def FnExactMoveMoneyWrongFalsely : Prop := fnExactMoveMoneyRow.holds Try.pinned (OpenSpec.ofChange fnExactMoveMoneyWrong)

/-- 'laws.FnExactMoveMember': WHATEVER THE INPUT: true; the input reads as it did. -/
def fnExactMoveMemberSpec : ChangeSpec := { name := "fnExactMoveMember", fn := fun _ => fun
  | [d1, d2, d3] => { results := [.lit (.bool true)], args := [d1, d2, d3] }
  | _ => none }
def fnExactMoveMemberRow : OpenClaim := { program := "ytogoddbkamgndaa", sum := "76d30ce2dc9b0af091528ab2a132d49455e575dff5250917f3e524edec6c3079", func := "loop.example/g00980/laws.FnExactMoveMember", spec := "fnExactMoveMember", inPlace := ["slices.overlaps[loop.example/g00980/impl.Stay]"], unfollowed := true, recurses := true, apart := false }
def FnExactMoveMemberSaid : Prop := fnExactMoveMemberRow.holds Try.pinned (OpenSpec.ofChange fnExactMoveMemberSpec)

/-- ITS FALSE NEIGHBOUR: 'it returns false'. Refute it at one input. -/
def fnExactMoveMemberWrong : ChangeSpec := { name := "fnExactMoveMember", fn := fun _ => fun
  | [d1, d2, d3] => { results := [.lit (.bool false)], args := [d1, d2, d3] }
  | _ => none }
def FnExactMoveMemberWrongFalsely : Prop := fnExactMoveMemberRow.holds Try.pinned (OpenSpec.ofChange fnExactMoveMemberWrong)

/-- 'laws.FnMoved': WHATEVER THE INPUT: true; the input reads as it did. -/
def fnMovedSpec : ChangeSpec := { name := "fnMoved", fn := fun _ => fun
  | [d] => { results := [.lit (.bool true)], args := [d] }
  | _ => none }
def fnMovedRow : OpenClaim := { program := "ytogoddbkamgndaa", sum := "76d30ce2dc9b0af091528ab2a132d49455e575dff5250917f3e524edec6c3079", func := "loop.example/g00980/laws.FnMoved", spec := "fnMoved", inPlace := ["slices.overlaps[loop.example/g00980/impl.Stay]"], unfollowed := true, recurses := true, apart := false }
def FnMovedSaid : Prop := fnMovedRow.holds Try.pinned (OpenSpec.ofChange fnMovedSpec)

/-- ITS FALSE NEIGHBOUR: 'it returns false'. Refute it at one input. -/
def fnMovedWrong : ChangeSpec := { name := "fnMoved", fn := fun _ => fun
  | [d] => { results := [.lit (.bool false)], args := [d] }
  | _ => none }
def FnMovedWrongFalsely : Prop := fnMovedRow.holds Try.pinned (OpenSpec.ofChange fnMovedWrong)

/-- 'laws.FnExactEventsOk': WHATEVER THE INPUT: true; the input reads as it did. -/
def fnExactEventsOkSpec : ChangeSpec := { name := "fnExactEventsOk", fn := fun _ => fun
  | [d] => { results := [.lit (.bool true)], args := [d] }
  | _ => none }
def fnExactEventsOkRow : OpenClaim := { program := "ytogoddbkamgndaa", sum := "76d30ce2dc9b0af091528ab2a132d49455e575dff5250917f3e524edec6c3079", func := "loop.example/g00980/laws.FnExactEventsOk", spec := "fnExactEventsOk", apart := false }
def FnExactEventsOkSaid : Prop := fnExactEventsOkRow.holds Try.pinned (OpenSpec.ofChange fnExactEventsOkSpec)

/-- ITS FALSE NEIGHBOUR: 'it returns false'. Refute it at one input. -/
def fnExactEventsOkWrong : ChangeSpec := { name := "fnExactEventsOk", fn := fun _ => fun
  | [d] => { results := [.lit (.bool false)], args := [d] }
  | _ => none }
def FnExactEventsOkWrongFalsely : Prop := fnExactEventsOkRow.holds Try.pinned (OpenSpec.ofChange fnExactEventsOkWrong)

/-- 'laws.FnExactStatusAt': WHATEVER THE INPUT: true; the input reads as it did. -/
def fnExactStatusAtSpec : ChangeSpec := { name := "fnExactStatusAt", fn := fun _ => fun
  | [d1, d2] => { results := [.lit (.bool true)], args := [d1, d2] }
  | _ => none }
def fnExactStatusAtRow : OpenClaim := { program := "ytogoddbkamgndaa", sum := "76d30ce2dc9b0af091528ab2a132d49455e575dff5250917f3e524edec6c3079", func := "loop.example/g00980/laws.FnExactStatusAt", spec := "fnExactStatusAt", apart := false }
def FnExactStatusAtSaid : Prop := fnExactStatusAtRow.holds Try.pinned (OpenSpec.ofChange fnExactStatusAtSpec)

/-- ITS FALSE NEIGHBOUR: 'it returns false'. Refute it at one input. -/
def fnExactStatusAtWrong : ChangeSpec := { name := "fnExactStatusAt", fn := fun _ => fun
  | [d1, d2] => { results := [.lit (.bool false)], args := [d1, d2] }
  | _ => none }
def FnExactStatusAtWrongFalsely : Prop := fnExactStatusAtRow.holds Try.pinned (OpenSpec.ofChange fnExactStatusAtWrong)

/-- 'laws.FnExactMonthOfKind': WHATEVER THE INPUT: true; the input reads as it did. -/
def fnExactMonthOfKindSpec : ChangeSpec := { name := "fnExactMonthOfKind", fn := fun _ => fun
  | [d1, d2] => { results := [.lit (.bool true)], args := [d1, d2] }
  | _ => none }
def fnExactMonthOfKindRow : OpenClaim := { program := "ytogoddbkamgndaa", sum := "76d30ce2dc9b0af091528ab2a132d49455e575dff5250917f3e524edec6c3079", func := "loop.example/g00980/laws.FnExactMonthOfKind", spec := "fnExactMonthOfKind", unfollowed := true, recurses := true, apart := false }
def FnExactMonthOfKindSaid : Prop := fnExactMonthOfKindRow.holds Try.pinned (OpenSpec.ofChange fnExactMonthOfKindSpec)

/-- ITS FALSE NEIGHBOUR: 'it returns false'. Refute it at one input. -/
def fnExactMonthOfKindWrong : ChangeSpec := { name := "fnExactMonthOfKind", fn := fun _ => fun
  | [d1, d2] => { results := [.lit (.bool false)], args := [d1, d2] }
  | _ => none }
def FnExactMonthOfKindWrongFalsely : Prop := fnExactMonthOfKindRow.holds Try.pinned (OpenSpec.ofChange fnExactMonthOfKindWrong)

/-- 'laws.FnEvents': WHATEVER THE INPUT: true; the input reads as it did. -/
def fnEventsSpec : ChangeSpec := { name := "fnEvents", fn := fun _ => fun
  | [d] => { results := [.lit (.bool true)], args := [d] }
  | _ => none }
def fnEventsRow : OpenClaim := { program := "ytogoddbkamgndaa", sum := "76d30ce2dc9b0af091528ab2a132d49455e575dff5250917f3e524edec6c3079", func := "loop.example/g00980/laws.FnEvents", spec := "fnEvents", apart := false }
def FnEventsSaid : Prop := fnEventsRow.holds Try.pinned (OpenSpec.ofChange fnEventsSpec)

/-- ITS FALSE NEIGHBOUR: 'it returns false'. Refute it at one input. -/
def fnEventsWrong : ChangeSpec := { name := "fnEvents", fn := fun _ => fun
  | [d] => { results := [.lit (.bool false)], args := [d] }
  | _ => none }
def FnEventsWrongFalsely : Prop := fnEventsRow.holds Try.pinned (OpenSpec.ofChange fnEventsWrong)

/-- 'laws.FnExactAddEvent': WHATEVER THE INPUT: true; the input reads as it did. -/
def fnExactAddEventSpec : ChangeSpec := { name := "fnExactAddEvent", fn := fun _ => fun
  | [d1, d2] => { results := [.lit (.bool true)], args := [d1, d2] }
  | _ => none }
def fnExactAddEventRow : OpenClaim := { program := "ytogoddbkamgndaa", sum := "76d30ce2dc9b0af091528ab2a132d49455e575dff5250917f3e524edec6c3079", func := "loop.example/g00980/laws.FnExactAddEvent", spec := "fnExactAddEvent", inPlace := ["slices.overlaps[loop.example/g00980/impl.Event]"], unfollowed := true, recurses := true, apart := false }
def FnExactAddEventSaid : Prop := fnExactAddEventRow.holds Try.pinned (OpenSpec.ofChange fnExactAddEventSpec)

/-- ITS FALSE NEIGHBOUR: 'it returns false'. Refute it at one input. -/
def fnExactAddEventWrong : ChangeSpec := { name := "fnExactAddEvent", fn := fun _ => fun
  | [d1, d2] => { results := [.lit (.bool false)], args := [d1, d2] }
  | _ => none }
def FnExactAddEventWrongFalsely : Prop := fnExactAddEventRow.holds Try.pinned (OpenSpec.ofChange fnExactAddEventWrong)

/-- 'laws.FnDeaths': WHATEVER THE INPUT: true; the input reads as it did. -/
def fnDeathsSpec : ChangeSpec := { name := "fnDeaths", fn := fun _ => fun
  | [d] => { results := [.lit (.bool true)], args := [d] }
  | _ => none }
def fnDeathsRow : OpenClaim := { program := "ytogoddbkamgndaa", sum := "76d30ce2dc9b0af091528ab2a132d49455e575dff5250917f3e524edec6c3079", func := "loop.example/g00980/laws.FnDeaths", spec := "fnDeaths", inPlace := ["slices.overlaps[loop.example/g00980/impl.Event]"], unfollowed := true, recurses := true, apart := false }
def FnDeathsSaid : Prop := fnDeathsRow.holds Try.pinned (OpenSpec.ofChange fnDeathsSpec)

/-- ITS FALSE NEIGHBOUR: 'it returns false'. Refute it at one input. -/
def fnDeathsWrong : ChangeSpec := { name := "fnDeaths", fn := fun _ => fun
  | [d] => { results := [.lit (.bool false)], args := [d] }
  | _ => none }
def FnDeathsWrongFalsely : Prop := fnDeathsRow.holds Try.pinned (OpenSpec.ofChange fnDeathsWrong)

/- THE SECOND FORM. 'bulk': how many values and letters a reading holds, each counted each time it is reached (what is shared counts as often as it is met; a slice's spare places count too). A statement '..UptoSaid' is the law's where the arguments, and the package variables that the reading takes, are together of bulk at most 1048576: NARROWER than '..Said'. Prove '..Said' where nothing that the law and all that it calls make is longer than what came in: it says more and counts as full. Else prove '..UptoSaid'. A law counts once. -/
mutual
def uptoBulk {H : Type} : DataW H → Nat
  | .lit (.string bytes) => bytes.length + 1
  | .lit _ => 1
  | .nil => 1
  | .ptr d => uptoBulk d + 1
  | .slice elems spare => uptoBulkAll elems + uptoBulkAll spare + 1
  | .agg parts => uptoBulkAll parts + 1
  | .iface _ d => uptoBulk d + 1
  | .map entries => uptoBulkEntries entries + 1
  | .held _ => 1
def uptoBulkAll {H : Type} : List (DataW H) → Nat
  | [] => 0
  | d :: r => uptoBulk d + uptoBulkAll r
def uptoBulkEntries {H : Type} : List (Lit × DataW H) → Nat
  | [] => 0
  | x :: r => uptoBulkEntry x + uptoBulkEntries r
def uptoBulkEntry {H : Type} : Lit × DataW H → Nat
  | (.string bytes, d) => bytes.length + uptoBulk d + 1
  | (_, d) => uptoBulk d + 1
 end
def uptoSmall : (H : Type) → List (DataW H) → Bool := fun _ ds => decide (uptoBulkAll ds ≤ 1048576)
def OpenSpec.upto (s : _root_.Go.ChangeSpec) : _root_.Go.OpenSpec := { _root_.Go.OpenSpec.ofChange s with cond := some uptoSmall }

/-- 'laws.FnExactStaysOk', WHERE WHAT IT READS IS OF BULK AT MOST 1048576: true; the input reads as it did. -/
def fnExactStaysOkUptoRow : OpenClaim := { program := "ytogoddbkamgndaa", sum := "76d30ce2dc9b0af091528ab2a132d49455e575dff5250917f3e524edec6c3079", func := "loop.example/g00980/laws.FnExactStaysOk", spec := "fnExactStaysOk", apart := false, narrowed := true }
def FnExactStaysOkUptoSaid : Prop := fnExactStaysOkUptoRow.holds Try.pinned (OpenSpec.upto fnExactStaysOkSpec)

/-- 'laws.FnExactMonthsInFund', WHERE WHAT IT READS IS OF BULK AT MOST 1048576: true; the input reads as it did. -/
def fnExactMonthsInFundUptoRow : OpenClaim := { program := "ytogoddbkamgndaa", sum := "76d30ce2dc9b0af091528ab2a132d49455e575dff5250917f3e524edec6c3079", func := "loop.example/g00980/laws.FnExactMonthsInFund", spec := "fnExactMonthsInFund", apart := false, narrowed := true }
def FnExactMonthsInFundUptoSaid : Prop := fnExactMonthsInFundUptoRow.holds Try.pinned (OpenSpec.upto fnExactMonthsInFundSpec)

/-- 'laws.FnExactFundAt', WHERE WHAT IT READS IS OF BULK AT MOST 1048576: true; the input reads as it did. -/
def fnExactFundAtUptoRow : OpenClaim := { program := "ytogoddbkamgndaa", sum := "76d30ce2dc9b0af091528ab2a132d49455e575dff5250917f3e524edec6c3079", func := "loop.example/g00980/laws.FnExactFundAt", spec := "fnExactFundAt", unfollowed := true, recurses := true, apart := false, narrowed := true }
def FnExactFundAtUptoSaid : Prop := fnExactFundAtUptoRow.holds Try.pinned (OpenSpec.upto fnExactFundAtSpec)

/-- 'laws.FnFundMonths', WHERE WHAT IT READS IS OF BULK AT MOST 1048576: true; the input reads as it did. -/
def fnFundMonthsUptoRow : OpenClaim := { program := "ytogoddbkamgndaa", sum := "76d30ce2dc9b0af091528ab2a132d49455e575dff5250917f3e524edec6c3079", func := "loop.example/g00980/laws.FnFundMonths", spec := "fnFundMonths", unfollowed := true, recurses := true, apart := false, narrowed := true }
def FnFundMonthsUptoSaid : Prop := fnFundMonthsUptoRow.holds Try.pinned (OpenSpec.upto fnFundMonthsSpec)

/-- 'laws.FnExactMoveMoney', WHERE WHAT IT READS IS OF BULK AT MOST 1048576: true; the input reads as it did. -/
def fnExactMoveMoneyUptoRow : OpenClaim := { program := "ytogoddbkamgndaa", sum := "76d30ce2dc9b0af091528ab2a132d49455e575dff5250917f3e524edec6c3079", func := "loop.example/g00980/laws.FnExactMoveMoney", spec := "fnExactMoveMoney", unfollowed := true, recurses := true, apart := false, narrowed := true }
def FnExactMoveMoneyUptoSaid : Prop := fnExactMoveMoneyUptoRow.holds Try.pinned (OpenSpec.upto fnExactMoveMoneySpec)

/-- 'laws.FnExactMoveMember', WHERE WHAT IT READS IS OF BULK AT MOST 1048576: true; the input reads as it did. -/
def fnExactMoveMemberUptoRow : OpenClaim := { program := "ytogoddbkamgndaa", sum := "76d30ce2dc9b0af091528ab2a132d49455e575dff5250917f3e524edec6c3079", func := "loop.example/g00980/laws.FnExactMoveMember", spec := "fnExactMoveMember", inPlace := ["slices.overlaps[loop.example/g00980/impl.Stay]"], unfollowed := true, recurses := true, apart := false, narrowed := true }
def FnExactMoveMemberUptoSaid : Prop := fnExactMoveMemberUptoRow.holds Try.pinned (OpenSpec.upto fnExactMoveMemberSpec)

/-- 'laws.FnMoved', WHERE WHAT IT READS IS OF BULK AT MOST 1048576: true; the input reads as it did. -/
def fnMovedUptoRow : OpenClaim := { program := "ytogoddbkamgndaa", sum := "76d30ce2dc9b0af091528ab2a132d49455e575dff5250917f3e524edec6c3079", func := "loop.example/g00980/laws.FnMoved", spec := "fnMoved", inPlace := ["slices.overlaps[loop.example/g00980/impl.Stay]"], unfollowed := true, recurses := true, apart := false, narrowed := true }
def FnMovedUptoSaid : Prop := fnMovedUptoRow.holds Try.pinned (OpenSpec.upto fnMovedSpec)

/-- 'laws.FnExactEventsOk', WHERE WHAT IT READS IS OF BULK AT MOST 1048576: true; the input reads as it did. -/
def fnExactEventsOkUptoRow : OpenClaim := { program := "ytogoddbkamgndaa", sum := "76d30ce2dc9b0af091528ab2a132d49455e575dff5250917f3e524edec6c3079", func := "loop.example/g00980/laws.FnExactEventsOk", spec := "fnExactEventsOk", apart := false, narrowed := true }
def FnExactEventsOkUptoSaid : Prop := fnExactEventsOkUptoRow.holds Try.pinned (OpenSpec.upto fnExactEventsOkSpec)

/-- 'laws.FnExactStatusAt', WHERE WHAT IT READS IS OF BULK AT MOST 1048576: true; the input reads as it did. -/
def fnExactStatusAtUptoRow : OpenClaim := { program := "ytogoddbkamgndaa", sum := "76d30ce2dc9b0af091528ab2a132d49455e575dff5250917f3e524edec6c3079", func := "loop.example/g00980/laws.FnExactStatusAt", spec := "fnExactStatusAt", apart := false, narrowed := true }
def FnExactStatusAtUptoSaid : Prop := fnExactStatusAtUptoRow.holds Try.pinned (OpenSpec.upto fnExactStatusAtSpec)

/-- 'laws.FnExactMonthOfKind', WHERE WHAT IT READS IS OF BULK AT MOST 1048576: true; the input reads as it did. -/
def fnExactMonthOfKindUptoRow : OpenClaim := { program := "ytogoddbkamgndaa", sum := "76d30ce2dc9b0af091528ab2a132d49455e575dff5250917f3e524edec6c3079", func := "loop.example/g00980/laws.FnExactMonthOfKind", spec := "fnExactMonthOfKind", unfollowed := true, recurses := true, apart := false, narrowed := true }
def FnExactMonthOfKindUptoSaid : Prop := fnExactMonthOfKindUptoRow.holds Try.pinned (OpenSpec.upto fnExactMonthOfKindSpec)

/-- 'laws.FnEvents', WHERE WHAT IT READS IS OF BULK AT MOST 1048576: true; the input reads as it did. -/
def fnEventsUptoRow : OpenClaim := { program := "ytogoddbkamgndaa", sum := "76d30ce2dc9b0af091528ab2a132d49455e575dff5250917f3e524edec6c3079", func := "loop.example/g00980/laws.FnEvents", spec := "fnEvents", apart := false, narrowed := true }
def FnEventsUptoSaid : Prop := fnEventsUptoRow.holds Try.pinned (OpenSpec.upto fnEventsSpec)

/-- 'laws.FnExactAddEvent', WHERE WHAT IT READS IS OF BULK AT MOST 1048576: true; the input reads as it did. -/
def fnExactAddEventUptoRow : OpenClaim := { program := "ytogoddbkamgndaa", sum := "76d30ce2dc9b0af091528ab2a132d49455e575dff5250917f3e524edec6c3079", func := "loop.example/g00980/laws.FnExactAddEvent", spec := "fnExactAddEvent", inPlace := ["slices.overlaps[loop.example/g00980/impl.Event]"], unfollowed := true, recurses := true, apart := false, narrowed := true }
def FnExactAddEventUptoSaid : Prop := fnExactAddEventUptoRow.holds Try.pinned (OpenSpec.upto fnExactAddEventSpec)

/-- 'laws.FnDeaths', WHERE WHAT IT READS IS OF BULK AT MOST 1048576: true; the input reads as it did. -/
def fnDeathsUptoRow : OpenClaim := { program := "ytogoddbkamgndaa", sum := "76d30ce2dc9b0af091528ab2a132d49455e575dff5250917f3e524edec6c3079", func := "loop.example/g00980/laws.FnDeaths", spec := "fnDeaths", inPlace := ["slices.overlaps[loop.example/g00980/impl.Event]"], unfollowed := true, recurses := true, apart := false, narrowed := true }
def FnDeathsUptoSaid : Prop := fnDeathsUptoRow.holds Try.pinned (OpenSpec.upto fnDeathsSpec)

end Rows
end Go.Proofs.Ytogoddbkamgndaa
