/-
  No cell of these rows narrows 'for every input' (looked for: loops, veiled, ifaces, maps, wideKeys, modest, calm, conditions, laid).
  DERIVED. THE GIVEN ROWS OF THIS SEAT. 6 by the template 'for every input the law returns true; each argument reads behind the call as it read before'; 0 by the template 'total and deterministic' (their statements: YtliikakadjgpdaaTotals.lean).
  GIVEN WITH THE SEED: the statements are not yours to turn. If you find one false, say at which input.
  Laid BY PROGRAM, IN A SANDBOX (cutbox-rows.mjs): the forced cells as the released guide's own fill.sh prints them over the translation 22cefbafe166d9ff… (all of the seat's roots in one cut). By AI agents, Wed Nov 11 2026. No macro, syntax, notation, axiom, sorry.
-/
import Derived.Test.YtliikakadjgpdaaChecked
import GoSem.Claim
import GoSem.ClaimJoined
import GoSem.ClaimMapViews
import Derived.JoinedTies
import Derived.KernelRfl
namespace Go.Proofs.Ytliikakadjgpdaa
/- THE CELL 'sum', in the pinned program and in every row, IS THE sha256 OF THE DUMP (.gsa) THAT YtliikakadjgpdaaProg.lean LOADS. Nothing in Lean hashes anything: it is a label: what it is worth is what the hold of that sum in a sandbox is worth. -/
noncomputable def Try.pinned : Pinned := { name := "ytliikakadjgpdaa", sum := "22cefbafe166d9ff3e0a98551baead3cf4e9eb0b9fa22067c982b01e172eebe8", checked := Try.checked }
namespace Rows
def none {H : Type} : Left H := { results := [], args := [] }

/-- 'laws.FnExactConstants': WHATEVER THE INPUT: true; the input reads as it did. -/
def fnExactConstantsSpec : ChangeSpec := { name := "fnExactConstants", fn := fun _ => fun
  | [] => { results := [.lit (.bool true)], args := [] }
  | _ => none }
def fnExactConstantsRow : OpenClaim := { program := "ytliikakadjgpdaa", sum := "22cefbafe166d9ff3e0a98551baead3cf4e9eb0b9fa22067c982b01e172eebe8", func := "loop.example/panecutter/laws.FnExactConstants", spec := "fnExactConstants", apart := false }
def FnExactConstantsSaid : Prop := fnExactConstantsRow.holds Try.pinned (OpenSpec.ofChange fnExactConstantsSpec)

/-- ITS FALSE NEIGHBOUR: 'it returns false'. Refute it at one input. -/
def fnExactConstantsWrong : ChangeSpec := { name := "fnExactConstants", fn := fun _ => fun
  | [] => { results := [.lit (.bool false)], args := [] }
  | _ => none }
def FnExactConstantsWrongFalsely : Prop := fnExactConstantsRow.holds Try.pinned (OpenSpec.ofChange fnExactConstantsWrong)

/-- 'laws.FnExactValidPane': WHATEVER THE INPUT: true; the input reads as it did. -/
def fnExactValidPaneSpec : ChangeSpec := { name := "fnExactValidPane", fn := fun _ => fun
  | [d] => { results := [.lit (.bool true)], args := [d] }
  | _ => none }
def fnExactValidPaneRow : OpenClaim := { program := "ytliikakadjgpdaa", sum := "22cefbafe166d9ff3e0a98551baead3cf4e9eb0b9fa22067c982b01e172eebe8", func := "loop.example/panecutter/laws.FnExactValidPane", spec := "fnExactValidPane", apart := false }
def FnExactValidPaneSaid : Prop := fnExactValidPaneRow.holds Try.pinned (OpenSpec.ofChange fnExactValidPaneSpec)

/-- ITS FALSE NEIGHBOUR: 'it returns false'. Refute it at one input. -/
def fnExactValidPaneWrong : ChangeSpec := { name := "fnExactValidPane", fn := fun _ => fun
  | [d] => { results := [.lit (.bool false)], args := [d] }
  | _ => none }
def FnExactValidPaneWrongFalsely : Prop := fnExactValidPaneRow.holds Try.pinned (OpenSpec.ofChange fnExactValidPaneWrong)

/-- 'laws.FnExactValidBox': WHATEVER THE INPUT: true; the input reads as it did. -/
def fnExactValidBoxSpec : ChangeSpec := { name := "fnExactValidBox", fn := fun _ => fun
  | [d] => { results := [.lit (.bool true)], args := [d] }
  | _ => none }
def fnExactValidBoxRow : OpenClaim := { program := "ytliikakadjgpdaa", sum := "22cefbafe166d9ff3e0a98551baead3cf4e9eb0b9fa22067c982b01e172eebe8", func := "loop.example/panecutter/laws.FnExactValidBox", spec := "fnExactValidBox", apart := false }
def FnExactValidBoxSaid : Prop := fnExactValidBoxRow.holds Try.pinned (OpenSpec.ofChange fnExactValidBoxSpec)

/-- ITS FALSE NEIGHBOUR: 'it returns false'. Refute it at one input. -/
def fnExactValidBoxWrong : ChangeSpec := { name := "fnExactValidBox", fn := fun _ => fun
  | [d] => { results := [.lit (.bool false)], args := [d] }
  | _ => none }
def FnExactValidBoxWrongFalsely : Prop := fnExactValidBoxRow.holds Try.pinned (OpenSpec.ofChange fnExactValidBoxWrong)

/-- 'laws.FnExactScaleLength': WHATEVER THE INPUT: true; the input reads as it did. -/
def fnExactScaleLengthSpec : ChangeSpec := { name := "fnExactScaleLength", fn := fun _ => fun
  | [d1, d2, d3] => { results := [.lit (.bool true)], args := [d1, d2, d3] }
  | _ => none }
def fnExactScaleLengthRow : OpenClaim := { program := "ytliikakadjgpdaa", sum := "22cefbafe166d9ff3e0a98551baead3cf4e9eb0b9fa22067c982b01e172eebe8", func := "loop.example/panecutter/laws.FnExactScaleLength", spec := "fnExactScaleLength", apart := false }
def FnExactScaleLengthSaid : Prop := fnExactScaleLengthRow.holds Try.pinned (OpenSpec.ofChange fnExactScaleLengthSpec)

/-- ITS FALSE NEIGHBOUR: 'it returns false'. Refute it at one input. -/
def fnExactScaleLengthWrong : ChangeSpec := { name := "fnExactScaleLength", fn := fun _ => fun
  | [d1, d2, d3] => { results := [.lit (.bool false)], args := [d1, d2, d3] }
  | _ => none }
def FnExactScaleLengthWrongFalsely : Prop := fnExactScaleLengthRow.holds Try.pinned (OpenSpec.ofChange fnExactScaleLengthWrong)

/-- 'laws.FnExactInsideOf': WHATEVER THE INPUT: true; the input reads as it did. -/
def fnExactInsideOfSpec : ChangeSpec := { name := "fnExactInsideOf", fn := fun _ => fun
  | [d1, d2] => { results := [.lit (.bool true)], args := [d1, d2] }
  | _ => none }
def fnExactInsideOfRow : OpenClaim := { program := "ytliikakadjgpdaa", sum := "22cefbafe166d9ff3e0a98551baead3cf4e9eb0b9fa22067c982b01e172eebe8", func := "loop.example/panecutter/laws.FnExactInsideOf", spec := "fnExactInsideOf", apart := false }
def FnExactInsideOfSaid : Prop := fnExactInsideOfRow.holds Try.pinned (OpenSpec.ofChange fnExactInsideOfSpec)

/-- ITS FALSE NEIGHBOUR: 'it returns false'. Refute it at one input. -/
def fnExactInsideOfWrong : ChangeSpec := { name := "fnExactInsideOf", fn := fun _ => fun
  | [d1, d2] => { results := [.lit (.bool false)], args := [d1, d2] }
  | _ => none }
def FnExactInsideOfWrongFalsely : Prop := fnExactInsideOfRow.holds Try.pinned (OpenSpec.ofChange fnExactInsideOfWrong)

/-- 'laws.FnExactWaysIn': WHATEVER THE INPUT: true; the input reads as it did. -/
def fnExactWaysInSpec : ChangeSpec := { name := "fnExactWaysIn", fn := fun _ => fun
  | [d1, d2, d3] => { results := [.lit (.bool true)], args := [d1, d2, d3] }
  | _ => none }
def fnExactWaysInRow : OpenClaim := { program := "ytliikakadjgpdaa", sum := "22cefbafe166d9ff3e0a98551baead3cf4e9eb0b9fa22067c982b01e172eebe8", func := "loop.example/panecutter/laws.FnExactWaysIn", spec := "fnExactWaysIn", apart := false }
def FnExactWaysInSaid : Prop := fnExactWaysInRow.holds Try.pinned (OpenSpec.ofChange fnExactWaysInSpec)

/-- ITS FALSE NEIGHBOUR: 'it returns false'. Refute it at one input. -/
def fnExactWaysInWrong : ChangeSpec := { name := "fnExactWaysIn", fn := fun _ => fun
  | [d1, d2, d3] => { results := [.lit (.bool false)], args := [d1, d2, d3] }
  | _ => none }
def FnExactWaysInWrongFalsely : Prop := fnExactWaysInRow.holds Try.pinned (OpenSpec.ofChange fnExactWaysInWrong)

/- THE SECOND FORM. 'bulk': how many values and letters a reading holds, each counted each time it is reached (what is shared counts as often as it is met; a slice's spare places count too). A statement '..UptoSaid' is the law's where the arguments, and the package variables that the reading takes, are together of bulk at most 1048576: NARROWER than '..Said'. Prove '..Said' where nothing that the law and all that it calls make is longer than what came in: it says more and counts as full. Else prove '..UptoSaid'. A law counts once. -/
mutual
def uptoBulk {H : Type} : DataW H → Nat
  | .lit (.string bytes) => bytes.length + 1
  | .lit _ => 1
  | .nil => 1
  | .ptr d => uptoBulk d + 1
  | .slice elems spare => uptoBulkAll elems + uptoBulkAll spare + 1
  | .agg parts => uptoBulkAll parts + 1
  | .iface _ d => uptoBulk d + 1
  | .map entries => uptoBulkEntries entries + 1
  | .held _ => 1
def uptoBulkAll {H : Type} : List (DataW H) → Nat
  | [] => 0
  | d :: r => uptoBulk d + uptoBulkAll r
def uptoBulkEntries {H : Type} : List (Lit × DataW H) → Nat
  | [] => 0
  | x :: r => uptoBulkEntry x + uptoBulkEntries r
def uptoBulkEntry {H : Type} : Lit × DataW H → Nat
  | (.string bytes, d) => bytes.length + uptoBulk d + 1
  | (_, d) => uptoBulk d + 1
 end
def uptoSmall : (H : Type) → List (DataW H) → Bool := fun _ ds => decide (uptoBulkAll ds ≤ 1048576)
def OpenSpec.upto (s : _root_.Go.ChangeSpec) : _root_.Go.OpenSpec := { _root_.Go.OpenSpec.ofChange s with cond := some uptoSmall }

/-- 'laws.FnExactConstants', WHERE WHAT IT READS IS OF BULK AT MOST 1048576: true; the input reads as it did. -/
def fnExactConstantsUptoRow : OpenClaim := { program := "ytliikakadjgpdaa", sum := "22cefbafe166d9ff3e0a98551baead3cf4e9eb0b9fa22067c982b01e172eebe8", func := "loop.example/panecutter/laws.FnExactConstants", spec := "fnExactConstants", apart := false, narrowed := true }
def FnExactConstantsUptoSaid : Prop := fnExactConstantsUptoRow.holds Try.pinned (OpenSpec.upto fnExactConstantsSpec)

/-- 'laws.FnExactValidPane', WHERE WHAT IT READS IS OF BULK AT MOST 1048576: true; the input reads as it did. -/
def fnExactValidPaneUptoRow : OpenClaim := { program := "ytliikakadjgpdaa", sum := "22cefbafe166d9ff3e0a98551baead3cf4e9eb0b9fa22067c982b01e172eebe8", func := "loop.example/panecutter/laws.FnExactValidPane", spec := "fnExactValidPane", apart := false, narrowed := true }
def FnExactValidPaneUptoSaid : Prop := fnExactValidPaneUptoRow.holds Try.pinned (OpenSpec.upto fnExactValidPaneSpec)

/-- 'laws.FnExactValidBox', WHERE WHAT IT READS IS OF BULK AT MOST 1048576: true; the input reads as it did. -/
def fnExactValidBoxUptoRow : OpenClaim := { program := "ytliikakadjgpdaa", sum := "22cefbafe166d9ff3e0a98551baead3cf4e9eb0b9fa22067c982b01e172eebe8", func := "loop.example/panecutter/laws.FnExactValidBox", spec := "fnExactValidBox", apart := false, narrowed := true }
def FnExactValidBoxUptoSaid : Prop := fnExactValidBoxUptoRow.holds Try.pinned (OpenSpec.upto fnExactValidBoxSpec)

/-- 'laws.FnExactScaleLength', WHERE WHAT IT READS IS OF BULK AT MOST 1048576: true; the input reads as it did. -/
def fnExactScaleLengthUptoRow : OpenClaim := { program := "ytliikakadjgpdaa", sum := "22cefbafe166d9ff3e0a98551baead3cf4e9eb0b9fa22067c982b01e172eebe8", func := "loop.example/panecutter/laws.FnExactScaleLength", spec := "fnExactScaleLength", apart := false, narrowed := true }
def FnExactScaleLengthUptoSaid : Prop := fnExactScaleLengthUptoRow.holds Try.pinned (OpenSpec.upto fnExactScaleLengthSpec)

/-- 'laws.FnExactInsideOf', WHERE WHAT IT READS IS OF BULK AT MOST 1048576: true; the input reads as it did. -/
def fnExactInsideOfUptoRow : OpenClaim := { program := "ytliikakadjgpdaa", sum := "22cefbafe166d9ff3e0a98551baead3cf4e9eb0b9fa22067c982b01e172eebe8", func := "loop.example/panecutter/laws.FnExactInsideOf", spec := "fnExactInsideOf", apart := false, narrowed := true }
def FnExactInsideOfUptoSaid : Prop := fnExactInsideOfUptoRow.holds Try.pinned (OpenSpec.upto fnExactInsideOfSpec)

/-- 'laws.FnExactWaysIn', WHERE WHAT IT READS IS OF BULK AT MOST 1048576: true; the input reads as it did. -/
def fnExactWaysInUptoRow : OpenClaim := { program := "ytliikakadjgpdaa", sum := "22cefbafe166d9ff3e0a98551baead3cf4e9eb0b9fa22067c982b01e172eebe8", func := "loop.example/panecutter/laws.FnExactWaysIn", spec := "fnExactWaysIn", apart := false, narrowed := true }
def FnExactWaysInUptoSaid : Prop := fnExactWaysInUptoRow.holds Try.pinned (OpenSpec.upto fnExactWaysInSpec)

end Rows
end Go.Proofs.Ytliikakadjgpdaa
