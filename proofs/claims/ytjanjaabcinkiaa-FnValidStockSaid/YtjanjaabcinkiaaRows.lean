/-
  NARROWER THAN 'FOR EVERY INPUT', by the rows' own cells (each row's printed sentence says how): FnExactCutsOf: loops · FnExactPlanSize: loops.
  DERIVED. THE GIVEN ROWS OF THIS SEAT. 11 by the template 'for every input the law returns true; each argument reads behind the call as it read before'; 0 by the template 'total and deterministic' (their statements: YtjanjaabcinkiaaTotals.lean).
  GIVEN WITH THE SEED: the statements are not yours to turn. If you find one false, say at which input.
  Laid BY PROGRAM, IN A SANDBOX (cutbox-rows.mjs): the forced cells as the released guide's own fill.sh prints them over the translation d08b901df61752ea… (all of the seat's roots in one cut). By AI agents, Wed Nov 11 2026. No macro, syntax, notation, axiom, sorry.
-/
import Derived.Test.YtjanjaabcinkiaaChecked
import GoSem.Claim
import GoSem.ClaimJoined
import GoSem.ClaimMapViews
import Derived.JoinedTies
import Derived.KernelRfl
namespace Go.Proofs.Ytjanjaabcinkiaa
/- THE CELL 'sum', in the pinned program and in every row, IS THE sha256 OF THE DUMP (.gsa) THAT YtjanjaabcinkiaaProg.lean LOADS. Nothing in Lean hashes anything: it is a label: what it is worth is what the hold of that sum in a sandbox is worth. -/
noncomputable def Try.pinned : Pinned := { name := "ytjanjaabcinkiaa", sum := "d08b901df61752ea5ccb95d4edf8e05af117e7ab50eebfcf0ea35b1b920a3d56", checked := Try.checked }
namespace Rows
def none {H : Type} : Left H := { results := [], args := [] }

/-- 'laws.FnExactCutsOf': WHATEVER THE INPUT: true; the input reads as it did. -/
def fnExactCutsOfSpec : ChangeSpec := { name := "fnExactCutsOf", fn := fun _ => fun
  | [d] => { results := [.lit (.bool true)], args := [d] }
  | _ => none }
def fnExactCutsOfRow : OpenClaim := { program := "ytjanjaabcinkiaa", sum := "d08b901df61752ea5ccb95d4edf8e05af117e7ab50eebfcf0ea35b1b920a3d56", func := "loop.example/panecutter/laws.FnExactCutsOf", spec := "fnExactCutsOf", recurses := true, loops := true, apart := false }
def FnExactCutsOfSaid : Prop := fnExactCutsOfRow.holds Try.pinned (OpenSpec.ofChange fnExactCutsOfSpec)

/-- ITS FALSE NEIGHBOUR: 'it returns false'. Refute it at one input. -/
def fnExactCutsOfWrong : ChangeSpec := { name := "fnExactCutsOf", fn := fun _ => fun
  | [d] => { results := [.lit (.bool false)], args := [d] }
  | _ => none }
def FnExactCutsOfWrongFalsely : Prop := fnExactCutsOfRow.holds Try.pinned (OpenSpec.ofChange fnExactCutsOfWrong)

/-- 'laws.FnExactPlanSize': WHATEVER THE INPUT: true; the input reads as it did. -/
def fnExactPlanSizeSpec : ChangeSpec := { name := "fnExactPlanSize", fn := fun _ => fun
  | [d] => { results := [.lit (.bool true)], args := [d] }
  | _ => none }
def fnExactPlanSizeRow : OpenClaim := { program := "ytjanjaabcinkiaa", sum := "d08b901df61752ea5ccb95d4edf8e05af117e7ab50eebfcf0ea35b1b920a3d56", func := "loop.example/panecutter/laws.FnExactPlanSize", spec := "fnExactPlanSize", recurses := true, loops := true, apart := false }
def FnExactPlanSizeSaid : Prop := fnExactPlanSizeRow.holds Try.pinned (OpenSpec.ofChange fnExactPlanSizeSpec)

/-- ITS FALSE NEIGHBOUR: 'it returns false'. Refute it at one input. -/
def fnExactPlanSizeWrong : ChangeSpec := { name := "fnExactPlanSize", fn := fun _ => fun
  | [d] => { results := [.lit (.bool false)], args := [d] }
  | _ => none }
def FnExactPlanSizeWrongFalsely : Prop := fnExactPlanSizeRow.holds Try.pinned (OpenSpec.ofChange fnExactPlanSizeWrong)

/-- 'laws.FnExactValidWork': WHATEVER THE INPUT: true; the input reads as it did. -/
def fnExactValidWorkSpec : ChangeSpec := { name := "fnExactValidWork", fn := fun _ => fun
  | [d] => { results := [.lit (.bool true)], args := [d] }
  | _ => none }
def fnExactValidWorkRow : OpenClaim := { program := "ytjanjaabcinkiaa", sum := "d08b901df61752ea5ccb95d4edf8e05af117e7ab50eebfcf0ea35b1b920a3d56", func := "loop.example/panecutter/laws.FnExactValidWork", spec := "fnExactValidWork", apart := false }
def FnExactValidWorkSaid : Prop := fnExactValidWorkRow.holds Try.pinned (OpenSpec.ofChange fnExactValidWorkSpec)

/-- ITS FALSE NEIGHBOUR: 'it returns false'. Refute it at one input. -/
def fnExactValidWorkWrong : ChangeSpec := { name := "fnExactValidWork", fn := fun _ => fun
  | [d] => { results := [.lit (.bool false)], args := [d] }
  | _ => none }
def FnExactValidWorkWrongFalsely : Prop := fnExactValidWorkRow.holds Try.pinned (OpenSpec.ofChange fnExactValidWorkWrong)

/-- 'laws.FnExactValidOrder': WHATEVER THE INPUT: true; the input reads as it did. -/
def fnExactValidOrderSpec : ChangeSpec := { name := "fnExactValidOrder", fn := fun _ => fun
  | [d] => { results := [.lit (.bool true)], args := [d] }
  | _ => none }
def fnExactValidOrderRow : OpenClaim := { program := "ytjanjaabcinkiaa", sum := "d08b901df61752ea5ccb95d4edf8e05af117e7ab50eebfcf0ea35b1b920a3d56", func := "loop.example/panecutter/laws.FnExactValidOrder", spec := "fnExactValidOrder", unfollowed := true, recurses := true, apart := false }
def FnExactValidOrderSaid : Prop := fnExactValidOrderRow.holds Try.pinned (OpenSpec.ofChange fnExactValidOrderSpec)

/-- ITS FALSE NEIGHBOUR: 'it returns false'. Refute it at one input. -/
def fnExactValidOrderWrong : ChangeSpec := { name := "fnExactValidOrder", fn := fun _ => fun
  | [d] => { results := [.lit (.bool false)], args := [d] }
  | _ => none }
def FnExactValidOrderWrongFalsely : Prop := fnExactValidOrderRow.holds Try.pinned (OpenSpec.ofChange fnExactValidOrderWrong)

/-- 'laws.FnExactOrderArea': WHATEVER THE INPUT: true; the input reads as it did. -/
def fnExactOrderAreaSpec : ChangeSpec := { name := "fnExactOrderArea", fn := fun _ => fun
  | [d] => { results := [.lit (.bool true)], args := [d] }
  | _ => none }
def fnExactOrderAreaRow : OpenClaim := { program := "ytjanjaabcinkiaa", sum := "d08b901df61752ea5ccb95d4edf8e05af117e7ab50eebfcf0ea35b1b920a3d56", func := "loop.example/panecutter/laws.FnExactOrderArea", spec := "fnExactOrderArea", unfollowed := true, recurses := true, apart := false }
def FnExactOrderAreaSaid : Prop := fnExactOrderAreaRow.holds Try.pinned (OpenSpec.ofChange fnExactOrderAreaSpec)

/-- ITS FALSE NEIGHBOUR: 'it returns false'. Refute it at one input. -/
def fnExactOrderAreaWrong : ChangeSpec := { name := "fnExactOrderArea", fn := fun _ => fun
  | [d] => { results := [.lit (.bool false)], args := [d] }
  | _ => none }
def FnExactOrderAreaWrongFalsely : Prop := fnExactOrderAreaRow.holds Try.pinned (OpenSpec.ofChange fnExactOrderAreaWrong)

/-- 'laws.FnExactApartBoxes': WHATEVER THE INPUT: true; the input reads as it did. -/
def fnExactApartBoxesSpec : ChangeSpec := { name := "fnExactApartBoxes", fn := fun _ => fun
  | [d] => { results := [.lit (.bool true)], args := [d] }
  | _ => none }
def fnExactApartBoxesRow : OpenClaim := { program := "ytjanjaabcinkiaa", sum := "d08b901df61752ea5ccb95d4edf8e05af117e7ab50eebfcf0ea35b1b920a3d56", func := "loop.example/panecutter/laws.FnExactApartBoxes", spec := "fnExactApartBoxes", apart := false }
def FnExactApartBoxesSaid : Prop := fnExactApartBoxesRow.holds Try.pinned (OpenSpec.ofChange fnExactApartBoxesSpec)

/-- ITS FALSE NEIGHBOUR: 'it returns false'. Refute it at one input. -/
def fnExactApartBoxesWrong : ChangeSpec := { name := "fnExactApartBoxes", fn := fun _ => fun
  | [d] => { results := [.lit (.bool false)], args := [d] }
  | _ => none }
def FnExactApartBoxesWrongFalsely : Prop := fnExactApartBoxesRow.holds Try.pinned (OpenSpec.ofChange fnExactApartBoxesWrong)

/-- 'laws.FnExactAreaBound': WHATEVER THE INPUT: true; the input reads as it did. -/
def fnExactAreaBoundSpec : ChangeSpec := { name := "fnExactAreaBound", fn := fun _ => fun
  | [d] => { results := [.lit (.bool true)], args := [d] }
  | _ => none }
def fnExactAreaBoundRow : OpenClaim := { program := "ytjanjaabcinkiaa", sum := "d08b901df61752ea5ccb95d4edf8e05af117e7ab50eebfcf0ea35b1b920a3d56", func := "loop.example/panecutter/laws.FnExactAreaBound", spec := "fnExactAreaBound", apart := false }
def FnExactAreaBoundSaid : Prop := fnExactAreaBoundRow.holds Try.pinned (OpenSpec.ofChange fnExactAreaBoundSpec)

/-- ITS FALSE NEIGHBOUR: 'it returns false'. Refute it at one input. -/
def fnExactAreaBoundWrong : ChangeSpec := { name := "fnExactAreaBound", fn := fun _ => fun
  | [d] => { results := [.lit (.bool false)], args := [d] }
  | _ => none }
def FnExactAreaBoundWrongFalsely : Prop := fnExactAreaBoundRow.holds Try.pinned (OpenSpec.ofChange fnExactAreaBoundWrong)

/-- 'laws.FnExactValidPiece': WHATEVER THE INPUT: true; the input reads as it did. -/
def fnExactValidPieceSpec : ChangeSpec := { name := "fnExactValidPiece", fn := fun _ => fun
  | [d] => { results := [.lit (.bool true)], args := [d] }
  | _ => none }
def fnExactValidPieceRow : OpenClaim := { program := "ytjanjaabcinkiaa", sum := "d08b901df61752ea5ccb95d4edf8e05af117e7ab50eebfcf0ea35b1b920a3d56", func := "loop.example/panecutter/laws.FnExactValidPiece", spec := "fnExactValidPiece", apart := false }
def FnExactValidPieceSaid : Prop := fnExactValidPieceRow.holds Try.pinned (OpenSpec.ofChange fnExactValidPieceSpec)

/-- ITS FALSE NEIGHBOUR: 'it returns false'. Refute it at one input. -/
def fnExactValidPieceWrong : ChangeSpec := { name := "fnExactValidPiece", fn := fun _ => fun
  | [d] => { results := [.lit (.bool false)], args := [d] }
  | _ => none }
def FnExactValidPieceWrongFalsely : Prop := fnExactValidPieceRow.holds Try.pinned (OpenSpec.ofChange fnExactValidPieceWrong)

/-- 'laws.FnValidStock': WHATEVER THE INPUT: true; the input reads as it did. -/
def fnValidStockSpec : ChangeSpec := { name := "fnValidStock", fn := fun _ => fun
  | [d] => { results := [.lit (.bool true)], args := [d] }
  | _ => none }
def fnValidStockRow : OpenClaim := { program := "ytjanjaabcinkiaa", sum := "d08b901df61752ea5ccb95d4edf8e05af117e7ab50eebfcf0ea35b1b920a3d56", func := "loop.example/panecutter/laws.FnValidStock", spec := "fnValidStock", apart := false }
def FnValidStockSaid : Prop := fnValidStockRow.holds Try.pinned (OpenSpec.ofChange fnValidStockSpec)

/-- ITS FALSE NEIGHBOUR: 'it returns false'. Refute it at one input. -/
def fnValidStockWrong : ChangeSpec := { name := "fnValidStock", fn := fun _ => fun
  | [d] => { results := [.lit (.bool false)], args := [d] }
  | _ => none }
def FnValidStockWrongFalsely : Prop := fnValidStockRow.holds Try.pinned (OpenSpec.ofChange fnValidStockWrong)

/-- 'laws.FnValidPiece': WHATEVER THE INPUT: true; the input reads as it did. -/
def fnValidPieceSpec : ChangeSpec := { name := "fnValidPiece", fn := fun _ => fun
  | [d] => { results := [.lit (.bool true)], args := [d] }
  | _ => none }
def fnValidPieceRow : OpenClaim := { program := "ytjanjaabcinkiaa", sum := "d08b901df61752ea5ccb95d4edf8e05af117e7ab50eebfcf0ea35b1b920a3d56", func := "loop.example/panecutter/laws.FnValidPiece", spec := "fnValidPiece", apart := false }
def FnValidPieceSaid : Prop := fnValidPieceRow.holds Try.pinned (OpenSpec.ofChange fnValidPieceSpec)

/-- ITS FALSE NEIGHBOUR: 'it returns false'. Refute it at one input. -/
def fnValidPieceWrong : ChangeSpec := { name := "fnValidPiece", fn := fun _ => fun
  | [d] => { results := [.lit (.bool false)], args := [d] }
  | _ => none }
def FnValidPieceWrongFalsely : Prop := fnValidPieceRow.holds Try.pinned (OpenSpec.ofChange fnValidPieceWrong)

/-- 'laws.FnValidOrder': WHATEVER THE INPUT: true; the input reads as it did. -/
def fnValidOrderSpec : ChangeSpec := { name := "fnValidOrder", fn := fun _ => fun
  | [d] => { results := [.lit (.bool true)], args := [d] }
  | _ => none }
def fnValidOrderRow : OpenClaim := { program := "ytjanjaabcinkiaa", sum := "d08b901df61752ea5ccb95d4edf8e05af117e7ab50eebfcf0ea35b1b920a3d56", func := "loop.example/panecutter/laws.FnValidOrder", spec := "fnValidOrder", unfollowed := true, recurses := true, apart := false }
def FnValidOrderSaid : Prop := fnValidOrderRow.holds Try.pinned (OpenSpec.ofChange fnValidOrderSpec)

/-- ITS FALSE NEIGHBOUR: 'it returns false'. Refute it at one input. -/
def fnValidOrderWrong : ChangeSpec := { name := "fnValidOrder", fn := fun _ => fun
  | [d] => { results := [.lit (.bool false)], args := [d] }
  | _ => none }
def FnValidOrderWrongFalsely : Prop := fnValidOrderRow.holds Try.pinned (OpenSpec.ofChange fnValidOrderWrong)

/- THE SECOND FORM. 'bulk': how many values and letters a reading holds, each counted each time it is reached (what is shared counts as often as it is met; a slice's spare places count too). A statement '..UptoSaid' is the law's where the arguments, and the package variables that the reading takes, are together of bulk at most 1048576: NARROWER than '..Said'. Prove '..Said' where nothing that the law and all that it calls make is longer than what came in: it says more and counts as full. Else prove '..UptoSaid'. A law counts once. -/
mutual
def uptoBulk {H : Type} : DataW H → Nat
  | .lit (.string bytes) => bytes.length + 1
  | .lit _ => 1
  | .nil => 1
  | .ptr d => uptoBulk d + 1
  | .slice elems spare => uptoBulkAll elems + uptoBulkAll spare + 1
  | .agg parts => uptoBulkAll parts + 1
  | .iface _ d => uptoBulk d + 1
  | .map entries => uptoBulkEntries entries + 1
  | .held _ => 1
def uptoBulkAll {H : Type} : List (DataW H) → Nat
  | [] => 0
  | d :: r => uptoBulk d + uptoBulkAll r
def uptoBulkEntries {H : Type} : List (Lit × DataW H) → Nat
  | [] => 0
  | x :: r => uptoBulkEntry x + uptoBulkEntries r
def uptoBulkEntry {H : Type} : Lit × DataW H → Nat
  | (.string bytes, d) => bytes.length + uptoBulk d + 1
  | (_, d) => uptoBulk d + 1
 end
def uptoSmall : (H : Type) → List (DataW H) → Bool := fun _ ds => decide (uptoBulkAll ds ≤ 1048576)
def OpenSpec.upto (s : _root_.Go.ChangeSpec) : _root_.Go.OpenSpec := { _root_.Go.OpenSpec.ofChange s with cond := some uptoSmall }

/-- 'laws.FnExactCutsOf', WHERE WHAT IT READS IS OF BULK AT MOST 1048576: true; the input reads as it did. -/
def fnExactCutsOfUptoRow : OpenClaim := { program := "ytjanjaabcinkiaa", sum := "d08b901df61752ea5ccb95d4edf8e05af117e7ab50eebfcf0ea35b1b920a3d56", func := "loop.example/panecutter/laws.FnExactCutsOf", spec := "fnExactCutsOf", recurses := true, loops := true, apart := false, narrowed := true }
def FnExactCutsOfUptoSaid : Prop := fnExactCutsOfUptoRow.holds Try.pinned (OpenSpec.upto fnExactCutsOfSpec)

/-- 'laws.FnExactPlanSize', WHERE WHAT IT READS IS OF BULK AT MOST 1048576: true; the input reads as it did. -/
def fnExactPlanSizeUptoRow : OpenClaim := { program := "ytjanjaabcinkiaa", sum := "d08b901df61752ea5ccb95d4edf8e05af117e7ab50eebfcf0ea35b1b920a3d56", func := "loop.example/panecutter/laws.FnExactPlanSize", spec := "fnExactPlanSize", recurses := true, loops := true, apart := false, narrowed := true }
def FnExactPlanSizeUptoSaid : Prop := fnExactPlanSizeUptoRow.holds Try.pinned (OpenSpec.upto fnExactPlanSizeSpec)

/-- 'laws.FnExactValidWork', WHERE WHAT IT READS IS OF BULK AT MOST 1048576: true; the input reads as it did. -/
def fnExactValidWorkUptoRow : OpenClaim := { program := "ytjanjaabcinkiaa", sum := "d08b901df61752ea5ccb95d4edf8e05af117e7ab50eebfcf0ea35b1b920a3d56", func := "loop.example/panecutter/laws.FnExactValidWork", spec := "fnExactValidWork", apart := false, narrowed := true }
def FnExactValidWorkUptoSaid : Prop := fnExactValidWorkUptoRow.holds Try.pinned (OpenSpec.upto fnExactValidWorkSpec)

/-- 'laws.FnExactValidOrder', WHERE WHAT IT READS IS OF BULK AT MOST 1048576: true; the input reads as it did. -/
def fnExactValidOrderUptoRow : OpenClaim := { program := "ytjanjaabcinkiaa", sum := "d08b901df61752ea5ccb95d4edf8e05af117e7ab50eebfcf0ea35b1b920a3d56", func := "loop.example/panecutter/laws.FnExactValidOrder", spec := "fnExactValidOrder", unfollowed := true, recurses := true, apart := false, narrowed := true }
def FnExactValidOrderUptoSaid : Prop := fnExactValidOrderUptoRow.holds Try.pinned (OpenSpec.upto fnExactValidOrderSpec)

/-- 'laws.FnExactOrderArea', WHERE WHAT IT READS IS OF BULK AT MOST 1048576: true; the input reads as it did. -/
def fnExactOrderAreaUptoRow : OpenClaim := { program := "ytjanjaabcinkiaa", sum := "d08b901df61752ea5ccb95d4edf8e05af117e7ab50eebfcf0ea35b1b920a3d56", func := "loop.example/panecutter/laws.FnExactOrderArea", spec := "fnExactOrderArea", unfollowed := true, recurses := true, apart := false, narrowed := true }
def FnExactOrderAreaUptoSaid : Prop := fnExactOrderAreaUptoRow.holds Try.pinned (OpenSpec.upto fnExactOrderAreaSpec)

/-- 'laws.FnExactApartBoxes', WHERE WHAT IT READS IS OF BULK AT MOST 1048576: true; the input reads as it did. -/
def fnExactApartBoxesUptoRow : OpenClaim := { program := "ytjanjaabcinkiaa", sum := "d08b901df61752ea5ccb95d4edf8e05af117e7ab50eebfcf0ea35b1b920a3d56", func := "loop.example/panecutter/laws.FnExactApartBoxes", spec := "fnExactApartBoxes", apart := false, narrowed := true }
def FnExactApartBoxesUptoSaid : Prop := fnExactApartBoxesUptoRow.holds Try.pinned (OpenSpec.upto fnExactApartBoxesSpec)

/-- 'laws.FnExactAreaBound', WHERE WHAT IT READS IS OF BULK AT MOST 1048576: true; the input reads as it did. -/
def fnExactAreaBoundUptoRow : OpenClaim := { program := "ytjanjaabcinkiaa", sum := "d08b901df61752ea5ccb95d4edf8e05af117e7ab50eebfcf0ea35b1b920a3d56", func := "loop.example/panecutter/laws.FnExactAreaBound", spec := "fnExactAreaBound", apart := false, narrowed := true }
def FnExactAreaBoundUptoSaid : Prop := fnExactAreaBoundUptoRow.holds Try.pinned (OpenSpec.upto fnExactAreaBoundSpec)

/-- 'laws.FnExactValidPiece', WHERE WHAT IT READS IS OF BULK AT MOST 1048576: true; the input reads as it did. -/
def fnExactValidPieceUptoRow : OpenClaim := { program := "ytjanjaabcinkiaa", sum := "d08b901df61752ea5ccb95d4edf8e05af117e7ab50eebfcf0ea35b1b920a3d56", func := "loop.example/panecutter/laws.FnExactValidPiece", spec := "fnExactValidPiece", apart := false, narrowed := true }
def FnExactValidPieceUptoSaid : Prop := fnExactValidPieceUptoRow.holds Try.pinned (OpenSpec.upto fnExactValidPieceSpec)

/-- 'laws.FnValidStock', WHERE WHAT IT READS IS OF BULK AT MOST 1048576: true; the input reads as it did. -/
def fnValidStockUptoRow : OpenClaim := { program := "ytjanjaabcinkiaa", sum := "d08b901df61752ea5ccb95d4edf8e05af117e7ab50eebfcf0ea35b1b920a3d56", func := "loop.example/panecutter/laws.FnValidStock", spec := "fnValidStock", apart := false, narrowed := true }
def FnValidStockUptoSaid : Prop := fnValidStockUptoRow.holds Try.pinned (OpenSpec.upto fnValidStockSpec)

/-- 'laws.FnValidPiece', WHERE WHAT IT READS IS OF BULK AT MOST 1048576: true; the input reads as it did. -/
def fnValidPieceUptoRow : OpenClaim := { program := "ytjanjaabcinkiaa", sum := "d08b901df61752ea5ccb95d4edf8e05af117e7ab50eebfcf0ea35b1b920a3d56", func := "loop.example/panecutter/laws.FnValidPiece", spec := "fnValidPiece", apart := false, narrowed := true }
def FnValidPieceUptoSaid : Prop := fnValidPieceUptoRow.holds Try.pinned (OpenSpec.upto fnValidPieceSpec)

/-- 'laws.FnValidOrder', WHERE WHAT IT READS IS OF BULK AT MOST 1048576: true; the input reads as it did. -/
def fnValidOrderUptoRow : OpenClaim := { program := "ytjanjaabcinkiaa", sum := "d08b901df61752ea5ccb95d4edf8e05af117e7ab50eebfcf0ea35b1b920a3d56", func := "loop.example/panecutter/laws.FnValidOrder", spec := "fnValidOrder", unfollowed := true, recurses := true, apart := false, narrowed := true }
def FnValidOrderUptoSaid : Prop := fnValidOrderUptoRow.holds Try.pinned (OpenSpec.upto fnValidOrderSpec)

end Rows
end Go.Proofs.Ytjanjaabcinkiaa
