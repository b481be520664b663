/-
  No cell of these rows narrows 'for every input' (looked for: loops, veiled, ifaces, maps, wideKeys, modest, calm, conditions, laid).
  DERIVED. THE GIVEN ROWS OF THIS SEAT. 7 by the template 'for every input the law returns true; each argument reads behind the call as it read before'; 0 by the template 'total and deterministic' (their statements: YtimfabpigpcjhaaTotals.lean).
  GIVEN WITH THE SEED: the statements are not yours to turn. If you find one false, say at which input.
  Laid BY PROGRAM, IN A SANDBOX (cutbox-rows.mjs): the forced cells as the released guide's own fill.sh prints them over the translation 108ed2f7bcbc141b… (all of the seat's roots in one cut). By AI agents, Wed Nov 11 2026. No macro, syntax, notation, axiom, sorry.
-/
import Derived.Test.YtimfabpigpcjhaaChecked
import GoSem.Claim
import GoSem.ClaimJoined
import GoSem.ClaimMapViews
import Derived.JoinedTies
import Derived.KernelRfl
namespace Go.Proofs.Ytimfabpigpcjhaa
/- THE CELL 'sum', in the pinned program and in every row, IS THE sha256 OF THE DUMP (.gsa) THAT YtimfabpigpcjhaaProg.lean LOADS. Nothing in Lean hashes anything: it is a label: what it is worth is what the hold of that sum in a sandbox is worth. -/
noncomputable def Try.pinned : Pinned := { name := "ytimfabpigpcjhaa", sum := "108ed2f7bcbc141b2bfd26287a9ba74f68057444b114106bc3bd3f3fe118535b", checked := Try.checked }
namespace Rows
def none {H : Type} : Left H := { results := [], args := [] }

/-- 'laws.FnExactMeetOf': WHATEVER THE INPUT: true; the input reads as it did. -/
def fnExactMeetOfSpec : ChangeSpec := { name := "fnExactMeetOf", fn := fun _ => fun
  | [d1, d2] => { results := [.lit (.bool true)], args := [d1, d2] }
  | _ => none }
def fnExactMeetOfRow : OpenClaim := { program := "ytimfabpigpcjhaa", sum := "108ed2f7bcbc141b2bfd26287a9ba74f68057444b114106bc3bd3f3fe118535b", func := "loop.example/panecutter/laws.FnExactMeetOf", spec := "fnExactMeetOf", apart := false }
def FnExactMeetOfSaid : Prop := fnExactMeetOfRow.holds Try.pinned (OpenSpec.ofChange fnExactMeetOfSpec)

/-- ITS FALSE NEIGHBOUR: 'it returns false'. Refute it at one input. -/
def fnExactMeetOfWrong : ChangeSpec := { name := "fnExactMeetOf", fn := fun _ => fun
  | [d1, d2] => { results := [.lit (.bool false)], args := [d1, d2] }
  | _ => none }
def FnExactMeetOfWrongFalsely : Prop := fnExactMeetOfRow.holds Try.pinned (OpenSpec.ofChange fnExactMeetOfWrong)

/-- 'laws.FnWaysIn': WHATEVER THE INPUT: true; the input reads as it did. -/
def fnWaysInSpec : ChangeSpec := { name := "fnWaysIn", fn := fun _ => fun
  | [d] => { results := [.lit (.bool true)], args := [d] }
  | _ => none }
def fnWaysInRow : OpenClaim := { program := "ytimfabpigpcjhaa", sum := "108ed2f7bcbc141b2bfd26287a9ba74f68057444b114106bc3bd3f3fe118535b", func := "loop.example/panecutter/laws.FnWaysIn", spec := "fnWaysIn", apart := false }
def FnWaysInSaid : Prop := fnWaysInRow.holds Try.pinned (OpenSpec.ofChange fnWaysInSpec)

/-- ITS FALSE NEIGHBOUR: 'it returns false'. Refute it at one input. -/
def fnWaysInWrong : ChangeSpec := { name := "fnWaysIn", fn := fun _ => fun
  | [d] => { results := [.lit (.bool false)], args := [d] }
  | _ => none }
def FnWaysInWrongFalsely : Prop := fnWaysInRow.holds Try.pinned (OpenSpec.ofChange fnWaysInWrong)

/-- 'laws.FnLeftOverPoints': WHATEVER THE INPUT: true; the input reads as it did. -/
def fnLeftOverPointsSpec : ChangeSpec := { name := "fnLeftOverPoints", fn := fun _ => fun
  | [d] => { results := [.lit (.bool true)], args := [d] }
  | _ => none }
def fnLeftOverPointsRow : OpenClaim := { program := "ytimfabpigpcjhaa", sum := "108ed2f7bcbc141b2bfd26287a9ba74f68057444b114106bc3bd3f3fe118535b", func := "loop.example/panecutter/laws.FnLeftOverPoints", spec := "fnLeftOverPoints", apart := false }
def FnLeftOverPointsSaid : Prop := fnLeftOverPointsRow.holds Try.pinned (OpenSpec.ofChange fnLeftOverPointsSpec)

/-- ITS FALSE NEIGHBOUR: 'it returns false'. Refute it at one input. -/
def fnLeftOverPointsWrong : ChangeSpec := { name := "fnLeftOverPoints", fn := fun _ => fun
  | [d] => { results := [.lit (.bool false)], args := [d] }
  | _ => none }
def FnLeftOverPointsWrongFalsely : Prop := fnLeftOverPointsRow.holds Try.pinned (OpenSpec.ofChange fnLeftOverPointsWrong)

/-- 'laws.FnExactPutStacks': WHATEVER THE INPUT: true; the input reads as it did. -/
def fnExactPutStacksSpec : ChangeSpec := { name := "fnExactPutStacks", fn := fun _ => fun
  | [d] => { results := [.lit (.bool true)], args := [d] }
  | _ => none }
def fnExactPutStacksRow : OpenClaim := { program := "ytimfabpigpcjhaa", sum := "108ed2f7bcbc141b2bfd26287a9ba74f68057444b114106bc3bd3f3fe118535b", func := "loop.example/panecutter/laws.FnExactPutStacks", spec := "fnExactPutStacks", unfollowed := true, recurses := true, apart := false }
def FnExactPutStacksSaid : Prop := fnExactPutStacksRow.holds Try.pinned (OpenSpec.ofChange fnExactPutStacksSpec)

/-- ITS FALSE NEIGHBOUR: 'it returns false'. Refute it at one input. -/
def fnExactPutStacksWrong : ChangeSpec := { name := "fnExactPutStacks", fn := fun _ => fun
  | [d] => { results := [.lit (.bool false)], args := [d] }
  | _ => none }
def FnExactPutStacksWrongFalsely : Prop := fnExactPutStacksRow.holds Try.pinned (OpenSpec.ofChange fnExactPutStacksWrong)

/-- 'laws.FnExactFewestBars': WHATEVER THE INPUT: true; the input reads as it did. -/
def fnExactFewestBarsSpec : ChangeSpec := { name := "fnExactFewestBars", fn := fun _ => fun
  | [d1, d2] => { results := [.lit (.bool true)], args := [d1, d2] }
  | _ => none }
def fnExactFewestBarsRow : OpenClaim := { program := "ytimfabpigpcjhaa", sum := "108ed2f7bcbc141b2bfd26287a9ba74f68057444b114106bc3bd3f3fe118535b", func := "loop.example/panecutter/laws.FnExactFewestBars", spec := "fnExactFewestBars", unfollowed := true, recurses := true, apart := false }
def FnExactFewestBarsSaid : Prop := fnExactFewestBarsRow.holds Try.pinned (OpenSpec.ofChange fnExactFewestBarsSpec)

/-- ITS FALSE NEIGHBOUR: 'it returns false'. Refute it at one input. -/
def fnExactFewestBarsWrong : ChangeSpec := { name := "fnExactFewestBars", fn := fun _ => fun
  | [d1, d2] => { results := [.lit (.bool false)], args := [d1, d2] }
  | _ => none }
def FnExactFewestBarsWrongFalsely : Prop := fnExactFewestBarsRow.holds Try.pinned (OpenSpec.ofChange fnExactFewestBarsWrong)

/-- 'laws.FnExactBalanceRack': WHATEVER THE INPUT: true; the input reads as it did. -/
def fnExactBalanceRackSpec : ChangeSpec := { name := "fnExactBalanceRack", fn := fun _ => fun
  | [d] => { results := [.lit (.bool true)], args := [d] }
  | _ => none }
def fnExactBalanceRackRow : OpenClaim := { program := "ytimfabpigpcjhaa", sum := "108ed2f7bcbc141b2bfd26287a9ba74f68057444b114106bc3bd3f3fe118535b", func := "loop.example/panecutter/laws.FnExactBalanceRack", spec := "fnExactBalanceRack", apart := false }
def FnExactBalanceRackSaid : Prop := fnExactBalanceRackRow.holds Try.pinned (OpenSpec.ofChange fnExactBalanceRackSpec)

/-- ITS FALSE NEIGHBOUR: 'it returns false'. Refute it at one input. -/
def fnExactBalanceRackWrong : ChangeSpec := { name := "fnExactBalanceRack", fn := fun _ => fun
  | [d] => { results := [.lit (.bool false)], args := [d] }
  | _ => none }
def FnExactBalanceRackWrongFalsely : Prop := fnExactBalanceRackRow.holds Try.pinned (OpenSpec.ofChange fnExactBalanceRackWrong)

/-- 'laws.FnBalanceRack': WHATEVER THE INPUT: true; the input reads as it did. -/
def fnBalanceRackSpec : ChangeSpec := { name := "fnBalanceRack", fn := fun _ => fun
  | [d] => { results := [.lit (.bool true)], args := [d] }
  | _ => none }
def fnBalanceRackRow : OpenClaim := { program := "ytimfabpigpcjhaa", sum := "108ed2f7bcbc141b2bfd26287a9ba74f68057444b114106bc3bd3f3fe118535b", func := "loop.example/panecutter/laws.FnBalanceRack", spec := "fnBalanceRack", apart := false }
def FnBalanceRackSaid : Prop := fnBalanceRackRow.holds Try.pinned (OpenSpec.ofChange fnBalanceRackSpec)

/-- ITS FALSE NEIGHBOUR: 'it returns false'. Refute it at one input. -/
def fnBalanceRackWrong : ChangeSpec := { name := "fnBalanceRack", fn := fun _ => fun
  | [d] => { results := [.lit (.bool false)], args := [d] }
  | _ => none }
def FnBalanceRackWrongFalsely : Prop := fnBalanceRackRow.holds Try.pinned (OpenSpec.ofChange fnBalanceRackWrong)

/- THE SECOND FORM. 'bulk': how many values and letters a reading holds, each counted each time it is reached (what is shared counts as often as it is met; a slice's spare places count too). A statement '..UptoSaid' is the law's where the arguments, and the package variables that the reading takes, are together of bulk at most 1048576: NARROWER than '..Said'. Prove '..Said' where nothing that the law and all that it calls make is longer than what came in: it says more and counts as full. Else prove '..UptoSaid'. A law counts once. -/
mutual
def uptoBulk {H : Type} : DataW H → Nat
  | .lit (.string bytes) => bytes.length + 1
  | .lit _ => 1
  | .nil => 1
  | .ptr d => uptoBulk d + 1
  | .slice elems spare => uptoBulkAll elems + uptoBulkAll spare + 1
  | .agg parts => uptoBulkAll parts + 1
  | .iface _ d => uptoBulk d + 1
  | .map entries => uptoBulkEntries entries + 1
  | .held _ => 1
def uptoBulkAll {H : Type} : List (DataW H) → Nat
  | [] => 0
  | d :: r => uptoBulk d + uptoBulkAll r
def uptoBulkEntries {H : Type} : List (Lit × DataW H) → Nat
  | [] => 0
  | x :: r => uptoBulkEntry x + uptoBulkEntries r
def uptoBulkEntry {H : Type} : Lit × DataW H → Nat
  | (.string bytes, d) => bytes.length + uptoBulk d + 1
  | (_, d) => uptoBulk d + 1
 end
def uptoSmall : (H : Type) → List (DataW H) → Bool := fun _ ds => decide (uptoBulkAll ds ≤ 1048576)
def OpenSpec.upto (s : _root_.Go.ChangeSpec) : _root_.Go.OpenSpec := { _root_.Go.OpenSpec.ofChange s with cond := some uptoSmall }

/-- 'laws.FnExactMeetOf', WHERE WHAT IT READS IS OF BULK AT MOST 1048576: true; the input reads as it did. -/
def fnExactMeetOfUptoRow : OpenClaim := { program := "ytimfabpigpcjhaa", sum := "108ed2f7bcbc141b2bfd26287a9ba74f68057444b114106bc3bd3f3fe118535b", func := "loop.example/panecutter/laws.FnExactMeetOf", spec := "fnExactMeetOf", apart := false, narrowed := true }
def FnExactMeetOfUptoSaid : Prop := fnExactMeetOfUptoRow.holds Try.pinned (OpenSpec.upto fnExactMeetOfSpec)

/-- 'laws.FnWaysIn', WHERE WHAT IT READS IS OF BULK AT MOST 1048576: true; the input reads as it did. -/
def fnWaysInUptoRow : OpenClaim := { program := "ytimfabpigpcjhaa", sum := "108ed2f7bcbc141b2bfd26287a9ba74f68057444b114106bc3bd3f3fe118535b", func := "loop.example/panecutter/laws.FnWaysIn", spec := "fnWaysIn", apart := false, narrowed := true }
def FnWaysInUptoSaid : Prop := fnWaysInUptoRow.holds Try.pinned (OpenSpec.upto fnWaysInSpec)

/-- 'laws.FnLeftOverPoints', WHERE WHAT IT READS IS OF BULK AT MOST 1048576: true; the input reads as it did. -/
def fnLeftOverPointsUptoRow : OpenClaim := { program := "ytimfabpigpcjhaa", sum := "108ed2f7bcbc141b2bfd26287a9ba74f68057444b114106bc3bd3f3fe118535b", func := "loop.example/panecutter/laws.FnLeftOverPoints", spec := "fnLeftOverPoints", apart := false, narrowed := true }
def FnLeftOverPointsUptoSaid : Prop := fnLeftOverPointsUptoRow.holds Try.pinned (OpenSpec.upto fnLeftOverPointsSpec)

/-- 'laws.FnExactPutStacks', WHERE WHAT IT READS IS OF BULK AT MOST 1048576: true; the input reads as it did. -/
def fnExactPutStacksUptoRow : OpenClaim := { program := "ytimfabpigpcjhaa", sum := "108ed2f7bcbc141b2bfd26287a9ba74f68057444b114106bc3bd3f3fe118535b", func := "loop.example/panecutter/laws.FnExactPutStacks", spec := "fnExactPutStacks", unfollowed := true, recurses := true, apart := false, narrowed := true }
def FnExactPutStacksUptoSaid : Prop := fnExactPutStacksUptoRow.holds Try.pinned (OpenSpec.upto fnExactPutStacksSpec)

/-- 'laws.FnExactFewestBars', WHERE WHAT IT READS IS OF BULK AT MOST 1048576: true; the input reads as it did. -/
def fnExactFewestBarsUptoRow : OpenClaim := { program := "ytimfabpigpcjhaa", sum := "108ed2f7bcbc141b2bfd26287a9ba74f68057444b114106bc3bd3f3fe118535b", func := "loop.example/panecutter/laws.FnExactFewestBars", spec := "fnExactFewestBars", unfollowed := true, recurses := true, apart := false, narrowed := true }
def FnExactFewestBarsUptoSaid : Prop := fnExactFewestBarsUptoRow.holds Try.pinned (OpenSpec.upto fnExactFewestBarsSpec)

/-- 'laws.FnExactBalanceRack', WHERE WHAT IT READS IS OF BULK AT MOST 1048576: true; the input reads as it did. -/
def fnExactBalanceRackUptoRow : OpenClaim := { program := "ytimfabpigpcjhaa", sum := "108ed2f7bcbc141b2bfd26287a9ba74f68057444b114106bc3bd3f3fe118535b", func := "loop.example/panecutter/laws.FnExactBalanceRack", spec := "fnExactBalanceRack", apart := false, narrowed := true }
def FnExactBalanceRackUptoSaid : Prop := fnExactBalanceRackUptoRow.holds Try.pinned (OpenSpec.upto fnExactBalanceRackSpec)

/-- 'laws.FnBalanceRack', WHERE WHAT IT READS IS OF BULK AT MOST 1048576: true; the input reads as it did. -/
def fnBalanceRackUptoRow : OpenClaim := { program := "ytimfabpigpcjhaa", sum := "108ed2f7bcbc141b2bfd26287a9ba74f68057444b114106bc3bd3f3fe118535b", func := "loop.example/panecutter/laws.FnBalanceRack", spec := "fnBalanceRack", apart := false, narrowed := true }
def FnBalanceRackUptoSaid : Prop := fnBalanceRackUptoRow.holds Try.pinned (OpenSpec.upto fnBalanceRackSpec)

end Rows
end Go.Proofs.Ytimfabpigpcjhaa
