/-
  No cell of these rows narrows 'for every input' (looked for: loops, veiled, ifaces, maps, wideKeys, modest, calm, conditions, laid).
  DERIVED. THE GIVEN ROWS OF THIS SEAT. 17 by the template 'for every input the law returns true; each argument reads behind the call as it read before'; 0 by the template 'total and deterministic' (their statements: YtglglgfiifjejaaTotals.lean).
  GIVEN WITH THE SEED: the statements are not yours to turn. If you find one false, say at which input.
  Laid BY PROGRAM, IN A SANDBOX (cutbox-rows.mjs): the forced cells as the released guide's own fill.sh prints them over the translation 055b07d63fefe765… (all of the seat's roots in one cut). By AI agents, Wed Nov 11 2026. No macro, syntax, notation, axiom, sorry.
-/
import Derived.Test.YtglglgfiifjejaaChecked
import GoSem.Claim
import GoSem.ClaimJoined
import GoSem.ClaimMapViews
import Derived.JoinedTies
import Derived.KernelRfl
namespace Go.Proofs.Ytglglgfiifjejaa
/- THE CELL 'sum', in the pinned program and in every row, IS THE sha256 OF THE DUMP (.gsa) THAT YtglglgfiifjejaaProg.lean LOADS. Nothing in Lean hashes anything: it is a label: what it is worth is what the hold of that sum in a sandbox is worth. -/
noncomputable def Try.pinned : Pinned := { name := "ytglglgfiifjejaa", sum := "055b07d63fefe765a195689c7f9c3fccf1e3c8c2b2f6bbf72ff0b28a8f119c54", checked := Try.checked }
namespace Rows
def none {H : Type} : Left H := { results := [], args := [] }

/-- 'laws.FnExactValidTurn': WHATEVER THE INPUT: true; the input reads as it did. -/
def fnExactValidTurnSpec : ChangeSpec := { name := "fnExactValidTurn", fn := fun _ => fun
  | [d] => { results := [.lit (.bool true)], args := [d] }
  | _ => none }
def fnExactValidTurnRow : OpenClaim := { program := "ytglglgfiifjejaa", sum := "055b07d63fefe765a195689c7f9c3fccf1e3c8c2b2f6bbf72ff0b28a8f119c54", func := "loop.example/panecutter/laws.FnExactValidTurn", spec := "fnExactValidTurn", apart := false }
def FnExactValidTurnSaid : Prop := fnExactValidTurnRow.holds Try.pinned (OpenSpec.ofChange fnExactValidTurnSpec)

/-- ITS FALSE NEIGHBOUR: 'it returns false'. Refute it at one input. -/
def fnExactValidTurnWrong : ChangeSpec := { name := "fnExactValidTurn", fn := fun _ => fun
  | [d] => { results := [.lit (.bool false)], args := [d] }
  | _ => none }
def FnExactValidTurnWrongFalsely : Prop := fnExactValidTurnRow.holds Try.pinned (OpenSpec.ofChange fnExactValidTurnWrong)

/-- 'laws.FnExactValidHarp': WHATEVER THE INPUT: true; the input reads as it did. -/
def fnExactValidHarpSpec : ChangeSpec := { name := "fnExactValidHarp", fn := fun _ => fun
  | [d] => { results := [.lit (.bool true)], args := [d] }
  | _ => none }
def fnExactValidHarpRow : OpenClaim := { program := "ytglglgfiifjejaa", sum := "055b07d63fefe765a195689c7f9c3fccf1e3c8c2b2f6bbf72ff0b28a8f119c54", func := "loop.example/panecutter/laws.FnExactValidHarp", spec := "fnExactValidHarp", apart := false }
def FnExactValidHarpSaid : Prop := fnExactValidHarpRow.holds Try.pinned (OpenSpec.ofChange fnExactValidHarpSpec)

/-- ITS FALSE NEIGHBOUR: 'it returns false'. Refute it at one input. -/
def fnExactValidHarpWrong : ChangeSpec := { name := "fnExactValidHarp", fn := fun _ => fun
  | [d] => { results := [.lit (.bool false)], args := [d] }
  | _ => none }
def FnExactValidHarpWrongFalsely : Prop := fnExactValidHarpRow.holds Try.pinned (OpenSpec.ofChange fnExactValidHarpWrong)

/-- 'laws.FnExactValidJobs': WHATEVER THE INPUT: true; the input reads as it did. -/
def fnExactValidJobsSpec : ChangeSpec := { name := "fnExactValidJobs", fn := fun _ => fun
  | [d] => { results := [.lit (.bool true)], args := [d] }
  | _ => none }
def fnExactValidJobsRow : OpenClaim := { program := "ytglglgfiifjejaa", sum := "055b07d63fefe765a195689c7f9c3fccf1e3c8c2b2f6bbf72ff0b28a8f119c54", func := "loop.example/panecutter/laws.FnExactValidJobs", spec := "fnExactValidJobs", apart := false }
def FnExactValidJobsSaid : Prop := fnExactValidJobsRow.holds Try.pinned (OpenSpec.ofChange fnExactValidJobsSpec)

/-- ITS FALSE NEIGHBOUR: 'it returns false'. Refute it at one input. -/
def fnExactValidJobsWrong : ChangeSpec := { name := "fnExactValidJobs", fn := fun _ => fun
  | [d] => { results := [.lit (.bool false)], args := [d] }
  | _ => none }
def FnExactValidJobsWrongFalsely : Prop := fnExactValidJobsRow.holds Try.pinned (OpenSpec.ofChange fnExactValidJobsWrong)

/-- 'laws.FnExactLowerTo': WHATEVER THE INPUT: true; the input reads as it did. -/
def fnExactLowerToSpec : ChangeSpec := { name := "fnExactLowerTo", fn := fun _ => fun
  | [d1, d2] => { results := [.lit (.bool true)], args := [d1, d2] }
  | _ => none }
def fnExactLowerToRow : OpenClaim := { program := "ytglglgfiifjejaa", sum := "055b07d63fefe765a195689c7f9c3fccf1e3c8c2b2f6bbf72ff0b28a8f119c54", func := "loop.example/panecutter/laws.FnExactLowerTo", spec := "fnExactLowerTo", apart := false }
def FnExactLowerToSaid : Prop := fnExactLowerToRow.holds Try.pinned (OpenSpec.ofChange fnExactLowerToSpec)

/-- ITS FALSE NEIGHBOUR: 'it returns false'. Refute it at one input. -/
def fnExactLowerToWrong : ChangeSpec := { name := "fnExactLowerTo", fn := fun _ => fun
  | [d1, d2] => { results := [.lit (.bool false)], args := [d1, d2] }
  | _ => none }
def FnExactLowerToWrongFalsely : Prop := fnExactLowerToRow.holds Try.pinned (OpenSpec.ofChange fnExactLowerToWrong)

/-- 'laws.FnExactSumsOf': WHATEVER THE INPUT: true; the input reads as it did. -/
def fnExactSumsOfSpec : ChangeSpec := { name := "fnExactSumsOf", fn := fun _ => fun
  | [d1, d2] => { results := [.lit (.bool true)], args := [d1, d2] }
  | _ => none }
def fnExactSumsOfRow : OpenClaim := { program := "ytglglgfiifjejaa", sum := "055b07d63fefe765a195689c7f9c3fccf1e3c8c2b2f6bbf72ff0b28a8f119c54", func := "loop.example/panecutter/laws.FnExactSumsOf", spec := "fnExactSumsOf", apart := false }
def FnExactSumsOfSaid : Prop := fnExactSumsOfRow.holds Try.pinned (OpenSpec.ofChange fnExactSumsOfSpec)

/-- ITS FALSE NEIGHBOUR: 'it returns false'. Refute it at one input. -/
def fnExactSumsOfWrong : ChangeSpec := { name := "fnExactSumsOf", fn := fun _ => fun
  | [d1, d2] => { results := [.lit (.bool false)], args := [d1, d2] }
  | _ => none }
def FnExactSumsOfWrongFalsely : Prop := fnExactSumsOfRow.holds Try.pinned (OpenSpec.ofChange fnExactSumsOfWrong)

/-- 'laws.FnExactGoodBars': WHATEVER THE INPUT: true; the input reads as it did. -/
def fnExactGoodBarsSpec : ChangeSpec := { name := "fnExactGoodBars", fn := fun _ => fun
  | [d1, d2, d3] => { results := [.lit (.bool true)], args := [d1, d2, d3] }
  | _ => none }
def fnExactGoodBarsRow : OpenClaim := { program := "ytglglgfiifjejaa", sum := "055b07d63fefe765a195689c7f9c3fccf1e3c8c2b2f6bbf72ff0b28a8f119c54", func := "loop.example/panecutter/laws.FnExactGoodBars", spec := "fnExactGoodBars", apart := false }
def FnExactGoodBarsSaid : Prop := fnExactGoodBarsRow.holds Try.pinned (OpenSpec.ofChange fnExactGoodBarsSpec)

/-- ITS FALSE NEIGHBOUR: 'it returns false'. Refute it at one input. -/
def fnExactGoodBarsWrong : ChangeSpec := { name := "fnExactGoodBars", fn := fun _ => fun
  | [d1, d2, d3] => { results := [.lit (.bool false)], args := [d1, d2, d3] }
  | _ => none }
def FnExactGoodBarsWrongFalsely : Prop := fnExactGoodBarsRow.holds Try.pinned (OpenSpec.ofChange fnExactGoodBarsWrong)

/-- 'laws.FnExactFireTime': WHATEVER THE INPUT: true; the input reads as it did. -/
def fnExactFireTimeSpec : ChangeSpec := { name := "fnExactFireTime", fn := fun _ => fun
  | [d1, d2, d3] => { results := [.lit (.bool true)], args := [d1, d2, d3] }
  | _ => none }
def fnExactFireTimeRow : OpenClaim := { program := "ytglglgfiifjejaa", sum := "055b07d63fefe765a195689c7f9c3fccf1e3c8c2b2f6bbf72ff0b28a8f119c54", func := "loop.example/panecutter/laws.FnExactFireTime", spec := "fnExactFireTime", apart := false }
def FnExactFireTimeSaid : Prop := fnExactFireTimeRow.holds Try.pinned (OpenSpec.ofChange fnExactFireTimeSpec)

/-- ITS FALSE NEIGHBOUR: 'it returns false'. Refute it at one input. -/
def fnExactFireTimeWrong : ChangeSpec := { name := "fnExactFireTime", fn := fun _ => fun
  | [d1, d2, d3] => { results := [.lit (.bool false)], args := [d1, d2, d3] }
  | _ => none }
def FnExactFireTimeWrongFalsely : Prop := fnExactFireTimeRow.holds Try.pinned (OpenSpec.ofChange fnExactFireTimeWrong)

/-- 'laws.FnExactSwapsFor': WHATEVER THE INPUT: true; the input reads as it did. -/
def fnExactSwapsForSpec : ChangeSpec := { name := "fnExactSwapsFor", fn := fun _ => fun
  | [d] => { results := [.lit (.bool true)], args := [d] }
  | _ => none }
def fnExactSwapsForRow : OpenClaim := { program := "ytglglgfiifjejaa", sum := "055b07d63fefe765a195689c7f9c3fccf1e3c8c2b2f6bbf72ff0b28a8f119c54", func := "loop.example/panecutter/laws.FnExactSwapsFor", spec := "fnExactSwapsFor", apart := false }
def FnExactSwapsForSaid : Prop := fnExactSwapsForRow.holds Try.pinned (OpenSpec.ofChange fnExactSwapsForSpec)

/-- ITS FALSE NEIGHBOUR: 'it returns false'. Refute it at one input. -/
def fnExactSwapsForWrong : ChangeSpec := { name := "fnExactSwapsFor", fn := fun _ => fun
  | [d] => { results := [.lit (.bool false)], args := [d] }
  | _ => none }
def FnExactSwapsForWrongFalsely : Prop := fnExactSwapsForRow.holds Try.pinned (OpenSpec.ofChange fnExactSwapsForWrong)

/-- 'laws.FnExactLiftsOf': WHATEVER THE INPUT: true; the input reads as it did. -/
def fnExactLiftsOfSpec : ChangeSpec := { name := "fnExactLiftsOf", fn := fun _ => fun
  | [d1, d2] => { results := [.lit (.bool true)], args := [d1, d2] }
  | _ => none }
def fnExactLiftsOfRow : OpenClaim := { program := "ytglglgfiifjejaa", sum := "055b07d63fefe765a195689c7f9c3fccf1e3c8c2b2f6bbf72ff0b28a8f119c54", func := "loop.example/panecutter/laws.FnExactLiftsOf", spec := "fnExactLiftsOf", apart := false }
def FnExactLiftsOfSaid : Prop := fnExactLiftsOfRow.holds Try.pinned (OpenSpec.ofChange fnExactLiftsOfSpec)

/-- ITS FALSE NEIGHBOUR: 'it returns false'. Refute it at one input. -/
def fnExactLiftsOfWrong : ChangeSpec := { name := "fnExactLiftsOf", fn := fun _ => fun
  | [d1, d2] => { results := [.lit (.bool false)], args := [d1, d2] }
  | _ => none }
def FnExactLiftsOfWrongFalsely : Prop := fnExactLiftsOfRow.holds Try.pinned (OpenSpec.ofChange fnExactLiftsOfWrong)

/-- 'laws.FnExactFetchFrom': WHATEVER THE INPUT: true; the input reads as it did. -/
def fnExactFetchFromSpec : ChangeSpec := { name := "fnExactFetchFrom", fn := fun _ => fun
  | [d1, d2] => { results := [.lit (.bool true)], args := [d1, d2] }
  | _ => none }
def fnExactFetchFromRow : OpenClaim := { program := "ytglglgfiifjejaa", sum := "055b07d63fefe765a195689c7f9c3fccf1e3c8c2b2f6bbf72ff0b28a8f119c54", func := "loop.example/panecutter/laws.FnExactFetchFrom", spec := "fnExactFetchFrom", apart := false }
def FnExactFetchFromSaid : Prop := fnExactFetchFromRow.holds Try.pinned (OpenSpec.ofChange fnExactFetchFromSpec)

/-- ITS FALSE NEIGHBOUR: 'it returns false'. Refute it at one input. -/
def fnExactFetchFromWrong : ChangeSpec := { name := "fnExactFetchFrom", fn := fun _ => fun
  | [d1, d2] => { results := [.lit (.bool false)], args := [d1, d2] }
  | _ => none }
def FnExactFetchFromWrongFalsely : Prop := fnExactFetchFromRow.holds Try.pinned (OpenSpec.ofChange fnExactFetchFromWrong)

/-- 'laws.FnExactStoreIn': WHATEVER THE INPUT: true; the input reads as it did. -/
def fnExactStoreInSpec : ChangeSpec := { name := "fnExactStoreIn", fn := fun _ => fun
  | [d1, d2] => { results := [.lit (.bool true)], args := [d1, d2] }
  | _ => none }
def fnExactStoreInRow : OpenClaim := { program := "ytglglgfiifjejaa", sum := "055b07d63fefe765a195689c7f9c3fccf1e3c8c2b2f6bbf72ff0b28a8f119c54", func := "loop.example/panecutter/laws.FnExactStoreIn", spec := "fnExactStoreIn", apart := false }
def FnExactStoreInSaid : Prop := fnExactStoreInRow.holds Try.pinned (OpenSpec.ofChange fnExactStoreInSpec)

/-- ITS FALSE NEIGHBOUR: 'it returns false'. Refute it at one input. -/
def fnExactStoreInWrong : ChangeSpec := { name := "fnExactStoreIn", fn := fun _ => fun
  | [d1, d2] => { results := [.lit (.bool false)], args := [d1, d2] }
  | _ => none }
def FnExactStoreInWrongFalsely : Prop := fnExactStoreInRow.holds Try.pinned (OpenSpec.ofChange fnExactStoreInWrong)

/-- 'laws.FnExactSpanBound': WHATEVER THE INPUT: true; the input reads as it did. -/
def fnExactSpanBoundSpec : ChangeSpec := { name := "fnExactSpanBound", fn := fun _ => fun
  | [d] => { results := [.lit (.bool true)], args := [d] }
  | _ => none }
def fnExactSpanBoundRow : OpenClaim := { program := "ytglglgfiifjejaa", sum := "055b07d63fefe765a195689c7f9c3fccf1e3c8c2b2f6bbf72ff0b28a8f119c54", func := "loop.example/panecutter/laws.FnExactSpanBound", spec := "fnExactSpanBound", apart := false }
def FnExactSpanBoundSaid : Prop := fnExactSpanBoundRow.holds Try.pinned (OpenSpec.ofChange fnExactSpanBoundSpec)

/-- ITS FALSE NEIGHBOUR: 'it returns false'. Refute it at one input. -/
def fnExactSpanBoundWrong : ChangeSpec := { name := "fnExactSpanBound", fn := fun _ => fun
  | [d] => { results := [.lit (.bool false)], args := [d] }
  | _ => none }
def FnExactSpanBoundWrongFalsely : Prop := fnExactSpanBoundRow.holds Try.pinned (OpenSpec.ofChange fnExactSpanBoundWrong)

/-- 'laws.FnExactPutStacks': WHATEVER THE INPUT: true; the input reads as it did. -/
def fnExactPutStacksSpec : ChangeSpec := { name := "fnExactPutStacks", fn := fun _ => fun
  | [d] => { results := [.lit (.bool true)], args := [d] }
  | _ => none }
def fnExactPutStacksRow : OpenClaim := { program := "ytglglgfiifjejaa", sum := "055b07d63fefe765a195689c7f9c3fccf1e3c8c2b2f6bbf72ff0b28a8f119c54", func := "loop.example/panecutter/laws.FnExactPutStacks", spec := "fnExactPutStacks", unfollowed := true, recurses := true, apart := false }
def FnExactPutStacksSaid : Prop := fnExactPutStacksRow.holds Try.pinned (OpenSpec.ofChange fnExactPutStacksSpec)

/-- ITS FALSE NEIGHBOUR: 'it returns false'. Refute it at one input. -/
def fnExactPutStacksWrong : ChangeSpec := { name := "fnExactPutStacks", fn := fun _ => fun
  | [d] => { results := [.lit (.bool false)], args := [d] }
  | _ => none }
def FnExactPutStacksWrongFalsely : Prop := fnExactPutStacksRow.holds Try.pinned (OpenSpec.ofChange fnExactPutStacksWrong)

/-- 'laws.FnExactFewestBars': WHATEVER THE INPUT: true; the input reads as it did. -/
def fnExactFewestBarsSpec : ChangeSpec := { name := "fnExactFewestBars", fn := fun _ => fun
  | [d1, d2] => { results := [.lit (.bool true)], args := [d1, d2] }
  | _ => none }
def fnExactFewestBarsRow : OpenClaim := { program := "ytglglgfiifjejaa", sum := "055b07d63fefe765a195689c7f9c3fccf1e3c8c2b2f6bbf72ff0b28a8f119c54", func := "loop.example/panecutter/laws.FnExactFewestBars", spec := "fnExactFewestBars", unfollowed := true, recurses := true, apart := false }
def FnExactFewestBarsSaid : Prop := fnExactFewestBarsRow.holds Try.pinned (OpenSpec.ofChange fnExactFewestBarsSpec)

/-- ITS FALSE NEIGHBOUR: 'it returns false'. Refute it at one input. -/
def fnExactFewestBarsWrong : ChangeSpec := { name := "fnExactFewestBars", fn := fun _ => fun
  | [d1, d2] => { results := [.lit (.bool false)], args := [d1, d2] }
  | _ => none }
def FnExactFewestBarsWrongFalsely : Prop := fnExactFewestBarsRow.holds Try.pinned (OpenSpec.ofChange fnExactFewestBarsWrong)

/-- 'laws.FnExactStacksFor': WHATEVER THE INPUT: true; the input reads as it did. -/
def fnExactStacksForSpec : ChangeSpec := { name := "fnExactStacksFor", fn := fun _ => fun
  | [d] => { results := [.lit (.bool true)], args := [d] }
  | _ => none }
def fnExactStacksForRow : OpenClaim := { program := "ytglglgfiifjejaa", sum := "055b07d63fefe765a195689c7f9c3fccf1e3c8c2b2f6bbf72ff0b28a8f119c54", func := "loop.example/panecutter/laws.FnExactStacksFor", spec := "fnExactStacksFor", apart := false }
def FnExactStacksForSaid : Prop := fnExactStacksForRow.holds Try.pinned (OpenSpec.ofChange fnExactStacksForSpec)

/-- ITS FALSE NEIGHBOUR: 'it returns false'. Refute it at one input. -/
def fnExactStacksForWrong : ChangeSpec := { name := "fnExactStacksFor", fn := fun _ => fun
  | [d] => { results := [.lit (.bool false)], args := [d] }
  | _ => none }
def FnExactStacksForWrongFalsely : Prop := fnExactStacksForRow.holds Try.pinned (OpenSpec.ofChange fnExactStacksForWrong)

/-- 'laws.FnExactTakeStacks': WHATEVER THE INPUT: true; the input reads as it did. -/
def fnExactTakeStacksSpec : ChangeSpec := { name := "fnExactTakeStacks", fn := fun _ => fun
  | [d1, d2] => { results := [.lit (.bool true)], args := [d1, d2] }
  | _ => none }
def fnExactTakeStacksRow : OpenClaim := { program := "ytglglgfiifjejaa", sum := "055b07d63fefe765a195689c7f9c3fccf1e3c8c2b2f6bbf72ff0b28a8f119c54", func := "loop.example/panecutter/laws.FnExactTakeStacks", spec := "fnExactTakeStacks", apart := false }
def FnExactTakeStacksSaid : Prop := fnExactTakeStacksRow.holds Try.pinned (OpenSpec.ofChange fnExactTakeStacksSpec)

/-- ITS FALSE NEIGHBOUR: 'it returns false'. Refute it at one input. -/
def fnExactTakeStacksWrong : ChangeSpec := { name := "fnExactTakeStacks", fn := fun _ => fun
  | [d1, d2] => { results := [.lit (.bool false)], args := [d1, d2] }
  | _ => none }
def FnExactTakeStacksWrongFalsely : Prop := fnExactTakeStacksRow.holds Try.pinned (OpenSpec.ofChange fnExactTakeStacksWrong)

/-- 'laws.FnExactBalanceRack': WHATEVER THE INPUT: true; the input reads as it did. -/
def fnExactBalanceRackSpec : ChangeSpec := { name := "fnExactBalanceRack", fn := fun _ => fun
  | [d] => { results := [.lit (.bool true)], args := [d] }
  | _ => none }
def fnExactBalanceRackRow : OpenClaim := { program := "ytglglgfiifjejaa", sum := "055b07d63fefe765a195689c7f9c3fccf1e3c8c2b2f6bbf72ff0b28a8f119c54", func := "loop.example/panecutter/laws.FnExactBalanceRack", spec := "fnExactBalanceRack", apart := false }
def FnExactBalanceRackSaid : Prop := fnExactBalanceRackRow.holds Try.pinned (OpenSpec.ofChange fnExactBalanceRackSpec)

/-- ITS FALSE NEIGHBOUR: 'it returns false'. Refute it at one input. -/
def fnExactBalanceRackWrong : ChangeSpec := { name := "fnExactBalanceRack", fn := fun _ => fun
  | [d] => { results := [.lit (.bool false)], args := [d] }
  | _ => none }
def FnExactBalanceRackWrongFalsely : Prop := fnExactBalanceRackRow.holds Try.pinned (OpenSpec.ofChange fnExactBalanceRackWrong)

/- THE SECOND FORM. 'bulk': how many values and letters a reading holds, each counted each time it is reached (what is shared counts as often as it is met; a slice's spare places count too). A statement '..UptoSaid' is the law's where the arguments, and the package variables that the reading takes, are together of bulk at most 1048576: NARROWER than '..Said'. Prove '..Said' where nothing that the law and all that it calls make is longer than what came in: it says more and counts as full. Else prove '..UptoSaid'. A law counts once. -/
mutual
def uptoBulk {H : Type} : DataW H → Nat
  | .lit (.string bytes) => bytes.length + 1
  | .lit _ => 1
  | .nil => 1
  | .ptr d => uptoBulk d + 1
  | .slice elems spare => uptoBulkAll elems + uptoBulkAll spare + 1
  | .agg parts => uptoBulkAll parts + 1
  | .iface _ d => uptoBulk d + 1
  | .map entries => uptoBulkEntries entries + 1
  | .held _ => 1
def uptoBulkAll {H : Type} : List (DataW H) → Nat
  | [] => 0
  | d :: r => uptoBulk d + uptoBulkAll r
def uptoBulkEntries {H : Type} : List (Lit × DataW H) → Nat
  | [] => 0
  | x :: r => uptoBulkEntry x + uptoBulkEntries r
def uptoBulkEntry {H : Type} : Lit × DataW H → Nat
  | (.string bytes, d) => bytes.length + uptoBulk d + 1
  | (_, d) => uptoBulk d + 1
 end
def uptoSmall : (H : Type) → List (DataW H) → Bool := fun _ ds => decide (uptoBulkAll ds ≤ 1048576)
def OpenSpec.upto (s : _root_.Go.ChangeSpec) : _root_.Go.OpenSpec := { _root_.Go.OpenSpec.ofChange s with cond := some uptoSmall }

/-- 'laws.FnExactValidTurn', WHERE WHAT IT READS IS OF BULK AT MOST 1048576: true; the input reads as it did. -/
def fnExactValidTurnUptoRow : OpenClaim := { program := "ytglglgfiifjejaa", sum := "055b07d63fefe765a195689c7f9c3fccf1e3c8c2b2f6bbf72ff0b28a8f119c54", func := "loop.example/panecutter/laws.FnExactValidTurn", spec := "fnExactValidTurn", apart := false, narrowed := true }
def FnExactValidTurnUptoSaid : Prop := fnExactValidTurnUptoRow.holds Try.pinned (OpenSpec.upto fnExactValidTurnSpec)

/-- 'laws.FnExactValidHarp', WHERE WHAT IT READS IS OF BULK AT MOST 1048576: true; the input reads as it did. -/
def fnExactValidHarpUptoRow : OpenClaim := { program := "ytglglgfiifjejaa", sum := "055b07d63fefe765a195689c7f9c3fccf1e3c8c2b2f6bbf72ff0b28a8f119c54", func := "loop.example/panecutter/laws.FnExactValidHarp", spec := "fnExactValidHarp", apart := false, narrowed := true }
def FnExactValidHarpUptoSaid : Prop := fnExactValidHarpUptoRow.holds Try.pinned (OpenSpec.upto fnExactValidHarpSpec)

/-- 'laws.FnExactValidJobs', WHERE WHAT IT READS IS OF BULK AT MOST 1048576: true; the input reads as it did. -/
def fnExactValidJobsUptoRow : OpenClaim := { program := "ytglglgfiifjejaa", sum := "055b07d63fefe765a195689c7f9c3fccf1e3c8c2b2f6bbf72ff0b28a8f119c54", func := "loop.example/panecutter/laws.FnExactValidJobs", spec := "fnExactValidJobs", apart := false, narrowed := true }
def FnExactValidJobsUptoSaid : Prop := fnExactValidJobsUptoRow.holds Try.pinned (OpenSpec.upto fnExactValidJobsSpec)

/-- 'laws.FnExactLowerTo', WHERE WHAT IT READS IS OF BULK AT MOST 1048576: true; the input reads as it did. -/
def fnExactLowerToUptoRow : OpenClaim := { program := "ytglglgfiifjejaa", sum := "055b07d63fefe765a195689c7f9c3fccf1e3c8c2b2f6bbf72ff0b28a8f119c54", func := "loop.example/panecutter/laws.FnExactLowerTo", spec := "fnExactLowerTo", apart := false, narrowed := true }
def FnExactLowerToUptoSaid : Prop := fnExactLowerToUptoRow.holds Try.pinned (OpenSpec.upto fnExactLowerToSpec)

/-- 'laws.FnExactSumsOf', WHERE WHAT IT READS IS OF BULK AT MOST 1048576: true; the input reads as it did. -/
def fnExactSumsOfUptoRow : OpenClaim := { program := "ytglglgfiifjejaa", sum := "055b07d63fefe765a195689c7f9c3fccf1e3c8c2b2f6bbf72ff0b28a8f119c54", func := "loop.example/panecutter/laws.FnExactSumsOf", spec := "fnExactSumsOf", apart := false, narrowed := true }
def FnExactSumsOfUptoSaid : Prop := fnExactSumsOfUptoRow.holds Try.pinned (OpenSpec.upto fnExactSumsOfSpec)

/-- 'laws.FnExactGoodBars', WHERE WHAT IT READS IS OF BULK AT MOST 1048576: true; the input reads as it did. -/
def fnExactGoodBarsUptoRow : OpenClaim := { program := "ytglglgfiifjejaa", sum := "055b07d63fefe765a195689c7f9c3fccf1e3c8c2b2f6bbf72ff0b28a8f119c54", func := "loop.example/panecutter/laws.FnExactGoodBars", spec := "fnExactGoodBars", apart := false, narrowed := true }
def FnExactGoodBarsUptoSaid : Prop := fnExactGoodBarsUptoRow.holds Try.pinned (OpenSpec.upto fnExactGoodBarsSpec)

/-- 'laws.FnExactFireTime', WHERE WHAT IT READS IS OF BULK AT MOST 1048576: true; the input reads as it did. -/
def fnExactFireTimeUptoRow : OpenClaim := { program := "ytglglgfiifjejaa", sum := "055b07d63fefe765a195689c7f9c3fccf1e3c8c2b2f6bbf72ff0b28a8f119c54", func := "loop.example/panecutter/laws.FnExactFireTime", spec := "fnExactFireTime", apart := false, narrowed := true }
def FnExactFireTimeUptoSaid : Prop := fnExactFireTimeUptoRow.holds Try.pinned (OpenSpec.upto fnExactFireTimeSpec)

/-- 'laws.FnExactSwapsFor', WHERE WHAT IT READS IS OF BULK AT MOST 1048576: true; the input reads as it did. -/
def fnExactSwapsForUptoRow : OpenClaim := { program := "ytglglgfiifjejaa", sum := "055b07d63fefe765a195689c7f9c3fccf1e3c8c2b2f6bbf72ff0b28a8f119c54", func := "loop.example/panecutter/laws.FnExactSwapsFor", spec := "fnExactSwapsFor", apart := false, narrowed := true }
def FnExactSwapsForUptoSaid : Prop := fnExactSwapsForUptoRow.holds Try.pinned (OpenSpec.upto fnExactSwapsForSpec)

/-- 'laws.FnExactLiftsOf', WHERE WHAT IT READS IS OF BULK AT MOST 1048576: true; the input reads as it did. -/
def fnExactLiftsOfUptoRow : OpenClaim := { program := "ytglglgfiifjejaa", sum := "055b07d63fefe765a195689c7f9c3fccf1e3c8c2b2f6bbf72ff0b28a8f119c54", func := "loop.example/panecutter/laws.FnExactLiftsOf", spec := "fnExactLiftsOf", apart := false, narrowed := true }
def FnExactLiftsOfUptoSaid : Prop := fnExactLiftsOfUptoRow.holds Try.pinned (OpenSpec.upto fnExactLiftsOfSpec)

/-- 'laws.FnExactFetchFrom', WHERE WHAT IT READS IS OF BULK AT MOST 1048576: true; the input reads as it did. -/
def fnExactFetchFromUptoRow : OpenClaim := { program := "ytglglgfiifjejaa", sum := "055b07d63fefe765a195689c7f9c3fccf1e3c8c2b2f6bbf72ff0b28a8f119c54", func := "loop.example/panecutter/laws.FnExactFetchFrom", spec := "fnExactFetchFrom", apart := false, narrowed := true }
def FnExactFetchFromUptoSaid : Prop := fnExactFetchFromUptoRow.holds Try.pinned (OpenSpec.upto fnExactFetchFromSpec)

/-- 'laws.FnExactStoreIn', WHERE WHAT IT READS IS OF BULK AT MOST 1048576: true; the input reads as it did. -/
def fnExactStoreInUptoRow : OpenClaim := { program := "ytglglgfiifjejaa", sum := "055b07d63fefe765a195689c7f9c3fccf1e3c8c2b2f6bbf72ff0b28a8f119c54", func := "loop.example/panecutter/laws.FnExactStoreIn", spec := "fnExactStoreIn", apart := false, narrowed := true }
def FnExactStoreInUptoSaid : Prop := fnExactStoreInUptoRow.holds Try.pinned (OpenSpec.upto fnExactStoreInSpec)

/-- 'laws.FnExactSpanBound', WHERE WHAT IT READS IS OF BULK AT MOST 1048576: true; the input reads as it did. -/
def fnExactSpanBoundUptoRow : OpenClaim := { program := "ytglglgfiifjejaa", sum := "055b07d63fefe765a195689c7f9c3fccf1e3c8c2b2f6bbf72ff0b28a8f119c54", func := "loop.example/panecutter/laws.FnExactSpanBound", spec := "fnExactSpanBound", apart := false, narrowed := true }
def FnExactSpanBoundUptoSaid : Prop := fnExactSpanBoundUptoRow.holds Try.pinned (OpenSpec.upto fnExactSpanBoundSpec)

/-- 'laws.FnExactPutStacks', WHERE WHAT IT READS IS OF BULK AT MOST 1048576: true; the input reads as it did. -/
def fnExactPutStacksUptoRow : OpenClaim := { program := "ytglglgfiifjejaa", sum := "055b07d63fefe765a195689c7f9c3fccf1e3c8c2b2f6bbf72ff0b28a8f119c54", func := "loop.example/panecutter/laws.FnExactPutStacks", spec := "fnExactPutStacks", unfollowed := true, recurses := true, apart := false, narrowed := true }
def FnExactPutStacksUptoSaid : Prop := fnExactPutStacksUptoRow.holds Try.pinned (OpenSpec.upto fnExactPutStacksSpec)

/-- 'laws.FnExactFewestBars', WHERE WHAT IT READS IS OF BULK AT MOST 1048576: true; the input reads as it did. -/
def fnExactFewestBarsUptoRow : OpenClaim := { program := "ytglglgfiifjejaa", sum := "055b07d63fefe765a195689c7f9c3fccf1e3c8c2b2f6bbf72ff0b28a8f119c54", func := "loop.example/panecutter/laws.FnExactFewestBars", spec := "fnExactFewestBars", unfollowed := true, recurses := true, apart := false, narrowed := true }
def FnExactFewestBarsUptoSaid : Prop := fnExactFewestBarsUptoRow.holds Try.pinned (OpenSpec.upto fnExactFewestBarsSpec)

/-- 'laws.FnExactStacksFor', WHERE WHAT IT READS IS OF BULK AT MOST 1048576: true; the input reads as it did. -/
def fnExactStacksForUptoRow : OpenClaim := { program := "ytglglgfiifjejaa", sum := "055b07d63fefe765a195689c7f9c3fccf1e3c8c2b2f6bbf72ff0b28a8f119c54", func := "loop.example/panecutter/laws.FnExactStacksFor", spec := "fnExactStacksFor", apart := false, narrowed := true }
def FnExactStacksForUptoSaid : Prop := fnExactStacksForUptoRow.holds Try.pinned (OpenSpec.upto fnExactStacksForSpec)

/-- 'laws.FnExactTakeStacks', WHERE WHAT IT READS IS OF BULK AT MOST 1048576: true; the input reads as it did. -/
def fnExactTakeStacksUptoRow : OpenClaim := { program := "ytglglgfiifjejaa", sum := "055b07d63fefe765a195689c7f9c3fccf1e3c8c2b2f6bbf72ff0b28a8f119c54", func := "loop.example/panecutter/laws.FnExactTakeStacks", spec := "fnExactTakeStacks", apart := false, narrowed := true }
def FnExactTakeStacksUptoSaid : Prop := fnExactTakeStacksUptoRow.holds Try.pinned (OpenSpec.upto fnExactTakeStacksSpec)

/-- 'laws.FnExactBalanceRack', WHERE WHAT IT READS IS OF BULK AT MOST 1048576: true; the input reads as it did. -/
def fnExactBalanceRackUptoRow : OpenClaim := { program := "ytglglgfiifjejaa", sum := "055b07d63fefe765a195689c7f9c3fccf1e3c8c2b2f6bbf72ff0b28a8f119c54", func := "loop.example/panecutter/laws.FnExactBalanceRack", spec := "fnExactBalanceRack", apart := false, narrowed := true }
def FnExactBalanceRackUptoSaid : Prop := fnExactBalanceRackUptoRow.holds Try.pinned (OpenSpec.upto fnExactBalanceRackSpec)

end Rows
end Go.Proofs.Ytglglgfiifjejaa
