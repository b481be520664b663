/-
  No cell of these rows narrows 'for every input' (looked for: loops, veiled, ifaces, maps, wideKeys, modest, calm, conditions, laid).
  DERIVED. THE GIVEN ROWS OF THIS SEAT. 9 by the template 'for every input the law returns true; each argument reads behind the call as it read before'; 0 by the template 'total and deterministic' (their statements: YthaaclgonfekpaaTotals.lean).
  GIVEN WITH THE SEED: the statements are not yours to turn. If you find one false, say at which input.
  Laid BY PROGRAM, IN A SANDBOX (cutbox-rows.mjs): the forced cells as the released guide's own fill.sh prints them over the translation 0794e3ce66fa503f… (all of the seat's roots in one cut). By AI agents, Wed Nov 11 2026. No macro, syntax, notation, axiom, sorry.
-/
import Derived.Test.YthaaclgonfekpaaChecked
import GoSem.Claim
import GoSem.ClaimJoined
import GoSem.ClaimMapViews
import Derived.JoinedTies
import Derived.KernelRfl
namespace Go.Proofs.Ythaaclgonfekpaa
/- THE CELL 'sum', in the pinned program and in every row, IS THE sha256 OF THE DUMP (.gsa) THAT YthaaclgonfekpaaProg.lean LOADS. Nothing in Lean hashes anything: it is a label: what it is worth is what the hold of that sum in a sandbox is worth. -/
noncomputable def Try.pinned : Pinned := { name := "ythaaclgonfekpaa", sum := "0794e3ce66fa503fc542eebd8d93017791033cdd85978dfae902e7a0950528bd", checked := Try.checked }
namespace Rows
def none {H : Type} : Left H := { results := [], args := [] }

/-- 'laws.FnExactTurnPane': WHATEVER THE INPUT: true; the input reads as it did. -/
def fnExactTurnPaneSpec : ChangeSpec := { name := "fnExactTurnPane", fn := fun _ => fun
  | [d] => { results := [.lit (.bool true)], args := [d] }
  | _ => none }
def fnExactTurnPaneRow : OpenClaim := { program := "ythaaclgonfekpaa", sum := "0794e3ce66fa503fc542eebd8d93017791033cdd85978dfae902e7a0950528bd", func := "loop.example/panecutter/laws.FnExactTurnPane", spec := "fnExactTurnPane", apart := false }
def FnExactTurnPaneSaid : Prop := fnExactTurnPaneRow.holds Try.pinned (OpenSpec.ofChange fnExactTurnPaneSpec)

/-- ITS FALSE NEIGHBOUR: 'it returns false'. Refute it at one input. -/
def fnExactTurnPaneWrong : ChangeSpec := { name := "fnExactTurnPane", fn := fun _ => fun
  | [d] => { results := [.lit (.bool false)], args := [d] }
  | _ => none }
def FnExactTurnPaneWrongFalsely : Prop := fnExactTurnPaneRow.holds Try.pinned (OpenSpec.ofChange fnExactTurnPaneWrong)

/-- 'laws.FnScaleLength': WHATEVER THE INPUT: true; the input reads as it did. -/
def fnScaleLengthSpec : ChangeSpec := { name := "fnScaleLength", fn := fun _ => fun
  | [d] => { results := [.lit (.bool true)], args := [d] }
  | _ => none }
def fnScaleLengthRow : OpenClaim := { program := "ythaaclgonfekpaa", sum := "0794e3ce66fa503fc542eebd8d93017791033cdd85978dfae902e7a0950528bd", func := "loop.example/panecutter/laws.FnScaleLength", spec := "fnScaleLength", apart := false }
def FnScaleLengthSaid : Prop := fnScaleLengthRow.holds Try.pinned (OpenSpec.ofChange fnScaleLengthSpec)

/-- ITS FALSE NEIGHBOUR: 'it returns false'. Refute it at one input. -/
def fnScaleLengthWrong : ChangeSpec := { name := "fnScaleLength", fn := fun _ => fun
  | [d] => { results := [.lit (.bool false)], args := [d] }
  | _ => none }
def FnScaleLengthWrongFalsely : Prop := fnScaleLengthRow.holds Try.pinned (OpenSpec.ofChange fnScaleLengthWrong)

/-- 'laws.FnValidBox': WHATEVER THE INPUT: true; the input reads as it did. -/
def fnValidBoxSpec : ChangeSpec := { name := "fnValidBox", fn := fun _ => fun
  | [d] => { results := [.lit (.bool true)], args := [d] }
  | _ => none }
def fnValidBoxRow : OpenClaim := { program := "ythaaclgonfekpaa", sum := "0794e3ce66fa503fc542eebd8d93017791033cdd85978dfae902e7a0950528bd", func := "loop.example/panecutter/laws.FnValidBox", spec := "fnValidBox", apart := false }
def FnValidBoxSaid : Prop := fnValidBoxRow.holds Try.pinned (OpenSpec.ofChange fnValidBoxSpec)

/-- ITS FALSE NEIGHBOUR: 'it returns false'. Refute it at one input. -/
def fnValidBoxWrong : ChangeSpec := { name := "fnValidBox", fn := fun _ => fun
  | [d] => { results := [.lit (.bool false)], args := [d] }
  | _ => none }
def FnValidBoxWrongFalsely : Prop := fnValidBoxRow.holds Try.pinned (OpenSpec.ofChange fnValidBoxWrong)

/-- 'laws.FnExactMeetOf': WHATEVER THE INPUT: true; the input reads as it did. -/
def fnExactMeetOfSpec : ChangeSpec := { name := "fnExactMeetOf", fn := fun _ => fun
  | [d1, d2] => { results := [.lit (.bool true)], args := [d1, d2] }
  | _ => none }
def fnExactMeetOfRow : OpenClaim := { program := "ythaaclgonfekpaa", sum := "0794e3ce66fa503fc542eebd8d93017791033cdd85978dfae902e7a0950528bd", func := "loop.example/panecutter/laws.FnExactMeetOf", spec := "fnExactMeetOf", apart := false }
def FnExactMeetOfSaid : Prop := fnExactMeetOfRow.holds Try.pinned (OpenSpec.ofChange fnExactMeetOfSpec)

/-- ITS FALSE NEIGHBOUR: 'it returns false'. Refute it at one input. -/
def fnExactMeetOfWrong : ChangeSpec := { name := "fnExactMeetOf", fn := fun _ => fun
  | [d1, d2] => { results := [.lit (.bool false)], args := [d1, d2] }
  | _ => none }
def FnExactMeetOfWrongFalsely : Prop := fnExactMeetOfRow.holds Try.pinned (OpenSpec.ofChange fnExactMeetOfWrong)

/-- 'laws.FnTurnPane': WHATEVER THE INPUT: true; the input reads as it did. -/
def fnTurnPaneSpec : ChangeSpec := { name := "fnTurnPane", fn := fun _ => fun
  | [d] => { results := [.lit (.bool true)], args := [d] }
  | _ => none }
def fnTurnPaneRow : OpenClaim := { program := "ythaaclgonfekpaa", sum := "0794e3ce66fa503fc542eebd8d93017791033cdd85978dfae902e7a0950528bd", func := "loop.example/panecutter/laws.FnTurnPane", spec := "fnTurnPane", apart := false }
def FnTurnPaneSaid : Prop := fnTurnPaneRow.holds Try.pinned (OpenSpec.ofChange fnTurnPaneSpec)

/-- ITS FALSE NEIGHBOUR: 'it returns false'. Refute it at one input. -/
def fnTurnPaneWrong : ChangeSpec := { name := "fnTurnPane", fn := fun _ => fun
  | [d] => { results := [.lit (.bool false)], args := [d] }
  | _ => none }
def FnTurnPaneWrongFalsely : Prop := fnTurnPaneRow.holds Try.pinned (OpenSpec.ofChange fnTurnPaneWrong)

/-- 'laws.FnInsideOf': WHATEVER THE INPUT: true; the input reads as it did. -/
def fnInsideOfSpec : ChangeSpec := { name := "fnInsideOf", fn := fun _ => fun
  | [d] => { results := [.lit (.bool true)], args := [d] }
  | _ => none }
def fnInsideOfRow : OpenClaim := { program := "ythaaclgonfekpaa", sum := "0794e3ce66fa503fc542eebd8d93017791033cdd85978dfae902e7a0950528bd", func := "loop.example/panecutter/laws.FnInsideOf", spec := "fnInsideOf", apart := false }
def FnInsideOfSaid : Prop := fnInsideOfRow.holds Try.pinned (OpenSpec.ofChange fnInsideOfSpec)

/-- ITS FALSE NEIGHBOUR: 'it returns false'. Refute it at one input. -/
def fnInsideOfWrong : ChangeSpec := { name := "fnInsideOf", fn := fun _ => fun
  | [d] => { results := [.lit (.bool false)], args := [d] }
  | _ => none }
def FnInsideOfWrongFalsely : Prop := fnInsideOfRow.holds Try.pinned (OpenSpec.ofChange fnInsideOfWrong)

/-- 'laws.FnMeetOf': WHATEVER THE INPUT: true; the input reads as it did. -/
def fnMeetOfSpec : ChangeSpec := { name := "fnMeetOf", fn := fun _ => fun
  | [d] => { results := [.lit (.bool true)], args := [d] }
  | _ => none }
def fnMeetOfRow : OpenClaim := { program := "ythaaclgonfekpaa", sum := "0794e3ce66fa503fc542eebd8d93017791033cdd85978dfae902e7a0950528bd", func := "loop.example/panecutter/laws.FnMeetOf", spec := "fnMeetOf", apart := false }
def FnMeetOfSaid : Prop := fnMeetOfRow.holds Try.pinned (OpenSpec.ofChange fnMeetOfSpec)

/-- ITS FALSE NEIGHBOUR: 'it returns false'. Refute it at one input. -/
def fnMeetOfWrong : ChangeSpec := { name := "fnMeetOf", fn := fun _ => fun
  | [d] => { results := [.lit (.bool false)], args := [d] }
  | _ => none }
def FnMeetOfWrongFalsely : Prop := fnMeetOfRow.holds Try.pinned (OpenSpec.ofChange fnMeetOfWrong)

/-- 'laws.FnWaysIn': WHATEVER THE INPUT: true; the input reads as it did. -/
def fnWaysInSpec : ChangeSpec := { name := "fnWaysIn", fn := fun _ => fun
  | [d] => { results := [.lit (.bool true)], args := [d] }
  | _ => none }
def fnWaysInRow : OpenClaim := { program := "ythaaclgonfekpaa", sum := "0794e3ce66fa503fc542eebd8d93017791033cdd85978dfae902e7a0950528bd", func := "loop.example/panecutter/laws.FnWaysIn", spec := "fnWaysIn", apart := false }
def FnWaysInSaid : Prop := fnWaysInRow.holds Try.pinned (OpenSpec.ofChange fnWaysInSpec)

/-- ITS FALSE NEIGHBOUR: 'it returns false'. Refute it at one input. -/
def fnWaysInWrong : ChangeSpec := { name := "fnWaysIn", fn := fun _ => fun
  | [d] => { results := [.lit (.bool false)], args := [d] }
  | _ => none }
def FnWaysInWrongFalsely : Prop := fnWaysInRow.holds Try.pinned (OpenSpec.ofChange fnWaysInWrong)

/-- 'laws.FnLeftOverPoints': WHATEVER THE INPUT: true; the input reads as it did. -/
def fnLeftOverPointsSpec : ChangeSpec := { name := "fnLeftOverPoints", fn := fun _ => fun
  | [d] => { results := [.lit (.bool true)], args := [d] }
  | _ => none }
def fnLeftOverPointsRow : OpenClaim := { program := "ythaaclgonfekpaa", sum := "0794e3ce66fa503fc542eebd8d93017791033cdd85978dfae902e7a0950528bd", func := "loop.example/panecutter/laws.FnLeftOverPoints", spec := "fnLeftOverPoints", apart := false }
def FnLeftOverPointsSaid : Prop := fnLeftOverPointsRow.holds Try.pinned (OpenSpec.ofChange fnLeftOverPointsSpec)

/-- ITS FALSE NEIGHBOUR: 'it returns false'. Refute it at one input. -/
def fnLeftOverPointsWrong : ChangeSpec := { name := "fnLeftOverPoints", fn := fun _ => fun
  | [d] => { results := [.lit (.bool false)], args := [d] }
  | _ => none }
def FnLeftOverPointsWrongFalsely : Prop := fnLeftOverPointsRow.holds Try.pinned (OpenSpec.ofChange fnLeftOverPointsWrong)

/- THE SECOND FORM. 'bulk': how many values and letters a reading holds, each counted each time it is reached (what is shared counts as often as it is met; a slice's spare places count too). A statement '..UptoSaid' is the law's where the arguments, and the package variables that the reading takes, are together of bulk at most 1048576: NARROWER than '..Said'. Prove '..Said' where nothing that the law and all that it calls make is longer than what came in: it says more and counts as full. Else prove '..UptoSaid'. A law counts once. -/
mutual
def uptoBulk {H : Type} : DataW H → Nat
  | .lit (.string bytes) => bytes.length + 1
  | .lit _ => 1
  | .nil => 1
  | .ptr d => uptoBulk d + 1
  | .slice elems spare => uptoBulkAll elems + uptoBulkAll spare + 1
  | .agg parts => uptoBulkAll parts + 1
  | .iface _ d => uptoBulk d + 1
  | .map entries => uptoBulkEntries entries + 1
  | .held _ => 1
def uptoBulkAll {H : Type} : List (DataW H) → Nat
  | [] => 0
  | d :: r => uptoBulk d + uptoBulkAll r
def uptoBulkEntries {H : Type} : List (Lit × DataW H) → Nat
  | [] => 0
  | x :: r => uptoBulkEntry x + uptoBulkEntries r
def uptoBulkEntry {H : Type} : Lit × DataW H → Nat
  | (.string bytes, d) => bytes.length + uptoBulk d + 1
  | (_, d) => uptoBulk d + 1
 end
def uptoSmall : (H : Type) → List (DataW H) → Bool := fun _ ds => decide (uptoBulkAll ds ≤ 1048576)
def OpenSpec.upto (s : _root_.Go.ChangeSpec) : _root_.Go.OpenSpec := { _root_.Go.OpenSpec.ofChange s with cond := some uptoSmall }

/-- 'laws.FnExactTurnPane', WHERE WHAT IT READS IS OF BULK AT MOST 1048576: true; the input reads as it did. -/
def fnExactTurnPaneUptoRow : OpenClaim := { program := "ythaaclgonfekpaa", sum := "0794e3ce66fa503fc542eebd8d93017791033cdd85978dfae902e7a0950528bd", func := "loop.example/panecutter/laws.FnExactTurnPane", spec := "fnExactTurnPane", apart := false, narrowed := true }
def FnExactTurnPaneUptoSaid : Prop := fnExactTurnPaneUptoRow.holds Try.pinned (OpenSpec.upto fnExactTurnPaneSpec)

/-- 'laws.FnScaleLength', WHERE WHAT IT READS IS OF BULK AT MOST 1048576: true; the input reads as it did. -/
def fnScaleLengthUptoRow : OpenClaim := { program := "ythaaclgonfekpaa", sum := "0794e3ce66fa503fc542eebd8d93017791033cdd85978dfae902e7a0950528bd", func := "loop.example/panecutter/laws.FnScaleLength", spec := "fnScaleLength", apart := false, narrowed := true }
def FnScaleLengthUptoSaid : Prop := fnScaleLengthUptoRow.holds Try.pinned (OpenSpec.upto fnScaleLengthSpec)

/-- 'laws.FnValidBox', WHERE WHAT IT READS IS OF BULK AT MOST 1048576: true; the input reads as it did. -/
def fnValidBoxUptoRow : OpenClaim := { program := "ythaaclgonfekpaa", sum := "0794e3ce66fa503fc542eebd8d93017791033cdd85978dfae902e7a0950528bd", func := "loop.example/panecutter/laws.FnValidBox", spec := "fnValidBox", apart := false, narrowed := true }
def FnValidBoxUptoSaid : Prop := fnValidBoxUptoRow.holds Try.pinned (OpenSpec.upto fnValidBoxSpec)

/-- 'laws.FnExactMeetOf', WHERE WHAT IT READS IS OF BULK AT MOST 1048576: true; the input reads as it did. -/
def fnExactMeetOfUptoRow : OpenClaim := { program := "ythaaclgonfekpaa", sum := "0794e3ce66fa503fc542eebd8d93017791033cdd85978dfae902e7a0950528bd", func := "loop.example/panecutter/laws.FnExactMeetOf", spec := "fnExactMeetOf", apart := false, narrowed := true }
def FnExactMeetOfUptoSaid : Prop := fnExactMeetOfUptoRow.holds Try.pinned (OpenSpec.upto fnExactMeetOfSpec)

/-- 'laws.FnTurnPane', WHERE WHAT IT READS IS OF BULK AT MOST 1048576: true; the input reads as it did. -/
def fnTurnPaneUptoRow : OpenClaim := { program := "ythaaclgonfekpaa", sum := "0794e3ce66fa503fc542eebd8d93017791033cdd85978dfae902e7a0950528bd", func := "loop.example/panecutter/laws.FnTurnPane", spec := "fnTurnPane", apart := false, narrowed := true }
def FnTurnPaneUptoSaid : Prop := fnTurnPaneUptoRow.holds Try.pinned (OpenSpec.upto fnTurnPaneSpec)

/-- 'laws.FnInsideOf', WHERE WHAT IT READS IS OF BULK AT MOST 1048576: true; the input reads as it did. -/
def fnInsideOfUptoRow : OpenClaim := { program := "ythaaclgonfekpaa", sum := "0794e3ce66fa503fc542eebd8d93017791033cdd85978dfae902e7a0950528bd", func := "loop.example/panecutter/laws.FnInsideOf", spec := "fnInsideOf", apart := false, narrowed := true }
def FnInsideOfUptoSaid : Prop := fnInsideOfUptoRow.holds Try.pinned (OpenSpec.upto fnInsideOfSpec)

/-- 'laws.FnMeetOf', WHERE WHAT IT READS IS OF BULK AT MOST 1048576: true; the input reads as it did. -/
def fnMeetOfUptoRow : OpenClaim := { program := "ythaaclgonfekpaa", sum := "0794e3ce66fa503fc542eebd8d93017791033cdd85978dfae902e7a0950528bd", func := "loop.example/panecutter/laws.FnMeetOf", spec := "fnMeetOf", apart := false, narrowed := true }
def FnMeetOfUptoSaid : Prop := fnMeetOfUptoRow.holds Try.pinned (OpenSpec.upto fnMeetOfSpec)

/-- 'laws.FnWaysIn', WHERE WHAT IT READS IS OF BULK AT MOST 1048576: true; the input reads as it did. -/
def fnWaysInUptoRow : OpenClaim := { program := "ythaaclgonfekpaa", sum := "0794e3ce66fa503fc542eebd8d93017791033cdd85978dfae902e7a0950528bd", func := "loop.example/panecutter/laws.FnWaysIn", spec := "fnWaysIn", apart := false, narrowed := true }
def FnWaysInUptoSaid : Prop := fnWaysInUptoRow.holds Try.pinned (OpenSpec.upto fnWaysInSpec)

/-- 'laws.FnLeftOverPoints', WHERE WHAT IT READS IS OF BULK AT MOST 1048576: true; the input reads as it did. -/
def fnLeftOverPointsUptoRow : OpenClaim := { program := "ythaaclgonfekpaa", sum := "0794e3ce66fa503fc542eebd8d93017791033cdd85978dfae902e7a0950528bd", func := "loop.example/panecutter/laws.FnLeftOverPoints", spec := "fnLeftOverPoints", apart := false, narrowed := true }
def FnLeftOverPointsUptoSaid : Prop := fnLeftOverPointsUptoRow.holds Try.pinned (OpenSpec.upto fnLeftOverPointsSpec)

end Rows
end Go.Proofs.Ythaaclgonfekpaa
