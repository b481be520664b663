/-
  No cell of these rows narrows 'for every input' (looked for: loops, veiled, ifaces, maps, wideKeys, modest, calm, conditions, laid).
  DERIVED. THE GIVEN ROWS OF THIS SEAT. 11 by the template 'for every input the law returns true; each argument reads behind the call as it read before'; 0 by the template 'total and deterministic' (their statements: YtddpjgcodnfbjaaTotals.lean).
  GIVEN WITH THE SEED: the statements are not yours to turn. If you find one false, say at which input.
  Laid BY PROGRAM, IN A SANDBOX (cutbox-rows.mjs): the forced cells as the released guide's own fill.sh prints them over the translation 24bd7b3a33d159b4… (all of the seat's roots in one cut). By AI agents, Wed Nov 11 2026. No macro, syntax, notation, axiom, sorry.
-/
import Derived.Test.YtddpjgcodnfbjaaChecked
import GoSem.Claim
import GoSem.ClaimJoined
import GoSem.ClaimMapViews
import Derived.JoinedTies
import Derived.KernelRfl
namespace Go.Proofs.Ytddpjgcodnfbjaa
/- THE CELL 'sum', in the pinned program and in every row, IS THE sha256 OF THE DUMP (.gsa) THAT YtddpjgcodnfbjaaProg.lean LOADS. Nothing in Lean hashes anything: it is a label: what it is worth is what the hold of that sum in a sandbox is worth. -/
noncomputable def Try.pinned : Pinned := { name := "ytddpjgcodnfbjaa", sum := "24bd7b3a33d159b45c1018dde967466caee27a380f100111c5f3a62515618e26", checked := Try.checked }
namespace Rows
def none {H : Type} : Left H := { results := [], args := [] }

/-- 'laws.FnStoreIn': WHATEVER THE INPUT: true; the input reads as it did. -/
def fnStoreInSpec : ChangeSpec := { name := "fnStoreIn", fn := fun _ => fun
  | [d] => { results := [.lit (.bool true)], args := [d] }
  | _ => none }
def fnStoreInRow : OpenClaim := { program := "ytddpjgcodnfbjaa", sum := "24bd7b3a33d159b45c1018dde967466caee27a380f100111c5f3a62515618e26", func := "loop.example/panecutter/laws.FnStoreIn", spec := "fnStoreIn", apart := false }
def FnStoreInSaid : Prop := fnStoreInRow.holds Try.pinned (OpenSpec.ofChange fnStoreInSpec)

/-- ITS FALSE NEIGHBOUR: 'it returns false'. Refute it at one input. -/
def fnStoreInWrong : ChangeSpec := { name := "fnStoreIn", fn := fun _ => fun
  | [d] => { results := [.lit (.bool false)], args := [d] }
  | _ => none }
def FnStoreInWrongFalsely : Prop := fnStoreInRow.holds Try.pinned (OpenSpec.ofChange fnStoreInWrong)

/-- 'laws.FnValidHarp': WHATEVER THE INPUT: true; the input reads as it did. -/
def fnValidHarpSpec : ChangeSpec := { name := "fnValidHarp", fn := fun _ => fun
  | [d] => { results := [.lit (.bool true)], args := [d] }
  | _ => none }
def fnValidHarpRow : OpenClaim := { program := "ytddpjgcodnfbjaa", sum := "24bd7b3a33d159b45c1018dde967466caee27a380f100111c5f3a62515618e26", func := "loop.example/panecutter/laws.FnValidHarp", spec := "fnValidHarp", apart := false }
def FnValidHarpSaid : Prop := fnValidHarpRow.holds Try.pinned (OpenSpec.ofChange fnValidHarpSpec)

/-- ITS FALSE NEIGHBOUR: 'it returns false'. Refute it at one input. -/
def fnValidHarpWrong : ChangeSpec := { name := "fnValidHarp", fn := fun _ => fun
  | [d] => { results := [.lit (.bool false)], args := [d] }
  | _ => none }
def FnValidHarpWrongFalsely : Prop := fnValidHarpRow.holds Try.pinned (OpenSpec.ofChange fnValidHarpWrong)

/-- 'laws.FnValidStock': WHATEVER THE INPUT: true; the input reads as it did. -/
def fnValidStockSpec : ChangeSpec := { name := "fnValidStock", fn := fun _ => fun
  | [d] => { results := [.lit (.bool true)], args := [d] }
  | _ => none }
def fnValidStockRow : OpenClaim := { program := "ytddpjgcodnfbjaa", sum := "24bd7b3a33d159b45c1018dde967466caee27a380f100111c5f3a62515618e26", func := "loop.example/panecutter/laws.FnValidStock", spec := "fnValidStock", apart := false }
def FnValidStockSaid : Prop := fnValidStockRow.holds Try.pinned (OpenSpec.ofChange fnValidStockSpec)

/-- ITS FALSE NEIGHBOUR: 'it returns false'. Refute it at one input. -/
def fnValidStockWrong : ChangeSpec := { name := "fnValidStock", fn := fun _ => fun
  | [d] => { results := [.lit (.bool false)], args := [d] }
  | _ => none }
def FnValidStockWrongFalsely : Prop := fnValidStockRow.holds Try.pinned (OpenSpec.ofChange fnValidStockWrong)

/-- 'laws.FnValidTurn': WHATEVER THE INPUT: true; the input reads as it did. -/
def fnValidTurnSpec : ChangeSpec := { name := "fnValidTurn", fn := fun _ => fun
  | [d] => { results := [.lit (.bool true)], args := [d] }
  | _ => none }
def fnValidTurnRow : OpenClaim := { program := "ytddpjgcodnfbjaa", sum := "24bd7b3a33d159b45c1018dde967466caee27a380f100111c5f3a62515618e26", func := "loop.example/panecutter/laws.FnValidTurn", spec := "fnValidTurn", apart := false }
def FnValidTurnSaid : Prop := fnValidTurnRow.holds Try.pinned (OpenSpec.ofChange fnValidTurnSpec)

/-- ITS FALSE NEIGHBOUR: 'it returns false'. Refute it at one input. -/
def fnValidTurnWrong : ChangeSpec := { name := "fnValidTurn", fn := fun _ => fun
  | [d] => { results := [.lit (.bool false)], args := [d] }
  | _ => none }
def FnValidTurnWrongFalsely : Prop := fnValidTurnRow.holds Try.pinned (OpenSpec.ofChange fnValidTurnWrong)

/-- 'laws.FnLowerTo': WHATEVER THE INPUT: true; the input reads as it did. -/
def fnLowerToSpec : ChangeSpec := { name := "fnLowerTo", fn := fun _ => fun
  | [d] => { results := [.lit (.bool true)], args := [d] }
  | _ => none }
def fnLowerToRow : OpenClaim := { program := "ytddpjgcodnfbjaa", sum := "24bd7b3a33d159b45c1018dde967466caee27a380f100111c5f3a62515618e26", func := "loop.example/panecutter/laws.FnLowerTo", spec := "fnLowerTo", apart := false }
def FnLowerToSaid : Prop := fnLowerToRow.holds Try.pinned (OpenSpec.ofChange fnLowerToSpec)

/-- ITS FALSE NEIGHBOUR: 'it returns false'. Refute it at one input. -/
def fnLowerToWrong : ChangeSpec := { name := "fnLowerTo", fn := fun _ => fun
  | [d] => { results := [.lit (.bool false)], args := [d] }
  | _ => none }
def FnLowerToWrongFalsely : Prop := fnLowerToRow.holds Try.pinned (OpenSpec.ofChange fnLowerToWrong)

/-- 'laws.FnSumsOf': WHATEVER THE INPUT: true; the input reads as it did. -/
def fnSumsOfSpec : ChangeSpec := { name := "fnSumsOf", fn := fun _ => fun
  | [d] => { results := [.lit (.bool true)], args := [d] }
  | _ => none }
def fnSumsOfRow : OpenClaim := { program := "ytddpjgcodnfbjaa", sum := "24bd7b3a33d159b45c1018dde967466caee27a380f100111c5f3a62515618e26", func := "loop.example/panecutter/laws.FnSumsOf", spec := "fnSumsOf", apart := false }
def FnSumsOfSaid : Prop := fnSumsOfRow.holds Try.pinned (OpenSpec.ofChange fnSumsOfSpec)

/-- ITS FALSE NEIGHBOUR: 'it returns false'. Refute it at one input. -/
def fnSumsOfWrong : ChangeSpec := { name := "fnSumsOf", fn := fun _ => fun
  | [d] => { results := [.lit (.bool false)], args := [d] }
  | _ => none }
def FnSumsOfWrongFalsely : Prop := fnSumsOfRow.holds Try.pinned (OpenSpec.ofChange fnSumsOfWrong)

/-- 'laws.FnValidPiece': WHATEVER THE INPUT: true; the input reads as it did. -/
def fnValidPieceSpec : ChangeSpec := { name := "fnValidPiece", fn := fun _ => fun
  | [d] => { results := [.lit (.bool true)], args := [d] }
  | _ => none }
def fnValidPieceRow : OpenClaim := { program := "ytddpjgcodnfbjaa", sum := "24bd7b3a33d159b45c1018dde967466caee27a380f100111c5f3a62515618e26", func := "loop.example/panecutter/laws.FnValidPiece", spec := "fnValidPiece", apart := false }
def FnValidPieceSaid : Prop := fnValidPieceRow.holds Try.pinned (OpenSpec.ofChange fnValidPieceSpec)

/-- ITS FALSE NEIGHBOUR: 'it returns false'. Refute it at one input. -/
def fnValidPieceWrong : ChangeSpec := { name := "fnValidPiece", fn := fun _ => fun
  | [d] => { results := [.lit (.bool false)], args := [d] }
  | _ => none }
def FnValidPieceWrongFalsely : Prop := fnValidPieceRow.holds Try.pinned (OpenSpec.ofChange fnValidPieceWrong)

/-- 'laws.FnSwapsFor': WHATEVER THE INPUT: true; the input reads as it did. -/
def fnSwapsForSpec : ChangeSpec := { name := "fnSwapsFor", fn := fun _ => fun
  | [d] => { results := [.lit (.bool true)], args := [d] }
  | _ => none }
def fnSwapsForRow : OpenClaim := { program := "ytddpjgcodnfbjaa", sum := "24bd7b3a33d159b45c1018dde967466caee27a380f100111c5f3a62515618e26", func := "loop.example/panecutter/laws.FnSwapsFor", spec := "fnSwapsFor", apart := false }
def FnSwapsForSaid : Prop := fnSwapsForRow.holds Try.pinned (OpenSpec.ofChange fnSwapsForSpec)

/-- ITS FALSE NEIGHBOUR: 'it returns false'. Refute it at one input. -/
def fnSwapsForWrong : ChangeSpec := { name := "fnSwapsFor", fn := fun _ => fun
  | [d] => { results := [.lit (.bool false)], args := [d] }
  | _ => none }
def FnSwapsForWrongFalsely : Prop := fnSwapsForRow.holds Try.pinned (OpenSpec.ofChange fnSwapsForWrong)

/-- 'laws.FnValidOrder': WHATEVER THE INPUT: true; the input reads as it did. -/
def fnValidOrderSpec : ChangeSpec := { name := "fnValidOrder", fn := fun _ => fun
  | [d] => { results := [.lit (.bool true)], args := [d] }
  | _ => none }
def fnValidOrderRow : OpenClaim := { program := "ytddpjgcodnfbjaa", sum := "24bd7b3a33d159b45c1018dde967466caee27a380f100111c5f3a62515618e26", func := "loop.example/panecutter/laws.FnValidOrder", spec := "fnValidOrder", unfollowed := true, recurses := true, apart := false }
def FnValidOrderSaid : Prop := fnValidOrderRow.holds Try.pinned (OpenSpec.ofChange fnValidOrderSpec)

/-- ITS FALSE NEIGHBOUR: 'it returns false'. Refute it at one input. -/
def fnValidOrderWrong : ChangeSpec := { name := "fnValidOrder", fn := fun _ => fun
  | [d] => { results := [.lit (.bool false)], args := [d] }
  | _ => none }
def FnValidOrderWrongFalsely : Prop := fnValidOrderRow.holds Try.pinned (OpenSpec.ofChange fnValidOrderWrong)

/-- 'laws.FnBalanceRack': WHATEVER THE INPUT: true; the input reads as it did. -/
def fnBalanceRackSpec : ChangeSpec := { name := "fnBalanceRack", fn := fun _ => fun
  | [d] => { results := [.lit (.bool true)], args := [d] }
  | _ => none }
def fnBalanceRackRow : OpenClaim := { program := "ytddpjgcodnfbjaa", sum := "24bd7b3a33d159b45c1018dde967466caee27a380f100111c5f3a62515618e26", func := "loop.example/panecutter/laws.FnBalanceRack", spec := "fnBalanceRack", apart := false }
def FnBalanceRackSaid : Prop := fnBalanceRackRow.holds Try.pinned (OpenSpec.ofChange fnBalanceRackSpec)

/-- ITS FALSE NEIGHBOUR: 'it returns false'. Refute it at one input. -/
def fnBalanceRackWrong : ChangeSpec := { name := "fnBalanceRack", fn := fun _ => fun
  | [d] => { results := [.lit (.bool false)], args := [d] }
  | _ => none }
def FnBalanceRackWrongFalsely : Prop := fnBalanceRackRow.holds Try.pinned (OpenSpec.ofChange fnBalanceRackWrong)

/-- 'laws.FnFetchFrom': WHATEVER THE INPUT: true; the input reads as it did. -/
def fnFetchFromSpec : ChangeSpec := { name := "fnFetchFrom", fn := fun _ => fun
  | [d] => { results := [.lit (.bool true)], args := [d] }
  | _ => none }
def fnFetchFromRow : OpenClaim := { program := "ytddpjgcodnfbjaa", sum := "24bd7b3a33d159b45c1018dde967466caee27a380f100111c5f3a62515618e26", func := "loop.example/panecutter/laws.FnFetchFrom", spec := "fnFetchFrom", apart := false }
def FnFetchFromSaid : Prop := fnFetchFromRow.holds Try.pinned (OpenSpec.ofChange fnFetchFromSpec)

/-- ITS FALSE NEIGHBOUR: 'it returns false'. Refute it at one input. -/
def fnFetchFromWrong : ChangeSpec := { name := "fnFetchFrom", fn := fun _ => fun
  | [d] => { results := [.lit (.bool false)], args := [d] }
  | _ => none }
def FnFetchFromWrongFalsely : Prop := fnFetchFromRow.holds Try.pinned (OpenSpec.ofChange fnFetchFromWrong)

/- THE SECOND FORM. 'bulk': how many values and letters a reading holds, each counted each time it is reached (what is shared counts as often as it is met; a slice's spare places count too). A statement '..UptoSaid' is the law's where the arguments, and the package variables that the reading takes, are together of bulk at most 1048576: NARROWER than '..Said'. Prove '..Said' where nothing that the law and all that it calls make is longer than what came in: it says more and counts as full. Else prove '..UptoSaid'. A law counts once. -/
mutual
def uptoBulk {H : Type} : DataW H → Nat
  | .lit (.string bytes) => bytes.length + 1
  | .lit _ => 1
  | .nil => 1
  | .ptr d => uptoBulk d + 1
  | .slice elems spare => uptoBulkAll elems + uptoBulkAll spare + 1
  | .agg parts => uptoBulkAll parts + 1
  | .iface _ d => uptoBulk d + 1
  | .map entries => uptoBulkEntries entries + 1
  | .held _ => 1
def uptoBulkAll {H : Type} : List (DataW H) → Nat
  | [] => 0
  | d :: r => uptoBulk d + uptoBulkAll r
def uptoBulkEntries {H : Type} : List (Lit × DataW H) → Nat
  | [] => 0
  | x :: r => uptoBulkEntry x + uptoBulkEntries r
def uptoBulkEntry {H : Type} : Lit × DataW H → Nat
  | (.string bytes, d) => bytes.length + uptoBulk d + 1
  | (_, d) => uptoBulk d + 1
 end
def uptoSmall : (H : Type) → List (DataW H) → Bool := fun _ ds => decide (uptoBulkAll ds ≤ 1048576)
def OpenSpec.upto (s : _root_.Go.ChangeSpec) : _root_.Go.OpenSpec := { _root_.Go.OpenSpec.ofChange s with cond := some uptoSmall }

/-- 'laws.FnStoreIn', WHERE WHAT IT READS IS OF BULK AT MOST 1048576: true; the input reads as it did. -/
def fnStoreInUptoRow : OpenClaim := { program := "ytddpjgcodnfbjaa", sum := "24bd7b3a33d159b45c1018dde967466caee27a380f100111c5f3a62515618e26", func := "loop.example/panecutter/laws.FnStoreIn", spec := "fnStoreIn", apart := false, narrowed := true }
def FnStoreInUptoSaid : Prop := fnStoreInUptoRow.holds Try.pinned (OpenSpec.upto fnStoreInSpec)

/-- 'laws.FnValidHarp', WHERE WHAT IT READS IS OF BULK AT MOST 1048576: true; the input reads as it did. -/
def fnValidHarpUptoRow : OpenClaim := { program := "ytddpjgcodnfbjaa", sum := "24bd7b3a33d159b45c1018dde967466caee27a380f100111c5f3a62515618e26", func := "loop.example/panecutter/laws.FnValidHarp", spec := "fnValidHarp", apart := false, narrowed := true }
def FnValidHarpUptoSaid : Prop := fnValidHarpUptoRow.holds Try.pinned (OpenSpec.upto fnValidHarpSpec)

/-- 'laws.FnValidStock', WHERE WHAT IT READS IS OF BULK AT MOST 1048576: true; the input reads as it did. -/
def fnValidStockUptoRow : OpenClaim := { program := "ytddpjgcodnfbjaa", sum := "24bd7b3a33d159b45c1018dde967466caee27a380f100111c5f3a62515618e26", func := "loop.example/panecutter/laws.FnValidStock", spec := "fnValidStock", apart := false, narrowed := true }
def FnValidStockUptoSaid : Prop := fnValidStockUptoRow.holds Try.pinned (OpenSpec.upto fnValidStockSpec)

/-- 'laws.FnValidTurn', WHERE WHAT IT READS IS OF BULK AT MOST 1048576: true; the input reads as it did. -/
def fnValidTurnUptoRow : OpenClaim := { program := "ytddpjgcodnfbjaa", sum := "24bd7b3a33d159b45c1018dde967466caee27a380f100111c5f3a62515618e26", func := "loop.example/panecutter/laws.FnValidTurn", spec := "fnValidTurn", apart := false, narrowed := true }
def FnValidTurnUptoSaid : Prop := fnValidTurnUptoRow.holds Try.pinned (OpenSpec.upto fnValidTurnSpec)

/-- 'laws.FnLowerTo', WHERE WHAT IT READS IS OF BULK AT MOST 1048576: true; the input reads as it did. -/
def fnLowerToUptoRow : OpenClaim := { program := "ytddpjgcodnfbjaa", sum := "24bd7b3a33d159b45c1018dde967466caee27a380f100111c5f3a62515618e26", func := "loop.example/panecutter/laws.FnLowerTo", spec := "fnLowerTo", apart := false, narrowed := true }
def FnLowerToUptoSaid : Prop := fnLowerToUptoRow.holds Try.pinned (OpenSpec.upto fnLowerToSpec)

/-- 'laws.FnSumsOf', WHERE WHAT IT READS IS OF BULK AT MOST 1048576: true; the input reads as it did. -/
def fnSumsOfUptoRow : OpenClaim := { program := "ytddpjgcodnfbjaa", sum := "24bd7b3a33d159b45c1018dde967466caee27a380f100111c5f3a62515618e26", func := "loop.example/panecutter/laws.FnSumsOf", spec := "fnSumsOf", apart := false, narrowed := true }
def FnSumsOfUptoSaid : Prop := fnSumsOfUptoRow.holds Try.pinned (OpenSpec.upto fnSumsOfSpec)

/-- 'laws.FnValidPiece', WHERE WHAT IT READS IS OF BULK AT MOST 1048576: true; the input reads as it did. -/
def fnValidPieceUptoRow : OpenClaim := { program := "ytddpjgcodnfbjaa", sum := "24bd7b3a33d159b45c1018dde967466caee27a380f100111c5f3a62515618e26", func := "loop.example/panecutter/laws.FnValidPiece", spec := "fnValidPiece", apart := false, narrowed := true }
def FnValidPieceUptoSaid : Prop := fnValidPieceUptoRow.holds Try.pinned (OpenSpec.upto fnValidPieceSpec)

/-- 'laws.FnSwapsFor', WHERE WHAT IT READS IS OF BULK AT MOST 1048576: true; the input reads as it did. -/
def fnSwapsForUptoRow : OpenClaim := { program := "ytddpjgcodnfbjaa", sum := "24bd7b3a33d159b45c1018dde967466caee27a380f100111c5f3a62515618e26", func := "loop.example/panecutter/laws.FnSwapsFor", spec := "fnSwapsFor", apart := false, narrowed := true }
def FnSwapsForUptoSaid : Prop := fnSwapsForUptoRow.holds Try.pinned (OpenSpec.upto fnSwapsForSpec)

/-- 'laws.FnValidOrder', WHERE WHAT IT READS IS OF BULK AT MOST 1048576: true; the input reads as it did. -/
def fnValidOrderUptoRow : OpenClaim := { program := "ytddpjgcodnfbjaa", sum := "24bd7b3a33d159b45c1018dde967466caee27a380f100111c5f3a62515618e26", func := "loop.example/panecutter/laws.FnValidOrder", spec := "fnValidOrder", unfollowed := true, recurses := true, apart := false, narrowed := true }
def FnValidOrderUptoSaid : Prop := fnValidOrderUptoRow.holds Try.pinned (OpenSpec.upto fnValidOrderSpec)

/-- 'laws.FnBalanceRack', WHERE WHAT IT READS IS OF BULK AT MOST 1048576: true; the input reads as it did. -/
def fnBalanceRackUptoRow : OpenClaim := { program := "ytddpjgcodnfbjaa", sum := "24bd7b3a33d159b45c1018dde967466caee27a380f100111c5f3a62515618e26", func := "loop.example/panecutter/laws.FnBalanceRack", spec := "fnBalanceRack", apart := false, narrowed := true }
def FnBalanceRackUptoSaid : Prop := fnBalanceRackUptoRow.holds Try.pinned (OpenSpec.upto fnBalanceRackSpec)

/-- 'laws.FnFetchFrom', WHERE WHAT IT READS IS OF BULK AT MOST 1048576: true; the input reads as it did. -/
def fnFetchFromUptoRow : OpenClaim := { program := "ytddpjgcodnfbjaa", sum := "24bd7b3a33d159b45c1018dde967466caee27a380f100111c5f3a62515618e26", func := "loop.example/panecutter/laws.FnFetchFrom", spec := "fnFetchFrom", apart := false, narrowed := true }
def FnFetchFromUptoSaid : Prop := fnFetchFromUptoRow.holds Try.pinned (OpenSpec.upto fnFetchFromSpec)

end Rows
end Go.Proofs.Ytddpjgcodnfbjaa
