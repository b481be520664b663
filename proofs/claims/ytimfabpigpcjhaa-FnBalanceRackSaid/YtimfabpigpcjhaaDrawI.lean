/- What the arguments' generators of spec draw: lists of ints; no statement is proved here. -/
import Derived.Test.YtimfabpigpcjhaaGenI
namespace Go.Proofs.Ytimfabpigpcjhaa
open Go.ChangeShapes Go.WideShapes Go.ChangeAt Go.RowKit
set_option linter.unusedVariables false
set_option linter.unusedSimpArgs false

/-- a list of at most L ints is drawn -/
def DrL (L : Nat) (w : World) : Ending → World → Prop := fun e w' => ∃ h n c zs, e = .returned (.slice (some ⟨h, 0, none⟩) n c) ∧ Own w' w.heap.size 3 (.slice (some ⟨h, 0, none⟩) n c) zs ∧ n ≤ L ∧ Below w.heap.size w w'
/-- a list and an int are drawn -/
def DrLI (L : Nat) (w : World) : Ending → World → Prop := fun e w' => ∃ h n c zs x, e = .returned (.tuple #[.slice (some ⟨h, 0, none⟩) n c, (.int .i64 x)]) ∧ Own w' w.heap.size 3 (.slice (some ⟨h, 0, none⟩) n c) zs ∧ n ≤ L ∧ Below w.heap.size w w'
theorem Own.sm {w : World} {B h n c : Nat} {E : TypeId} {zs : List Int} (ho : Own w B E (.slice (some ⟨h, 0, none⟩) n c) zs) (hn : n ≤ 1048576) : Sl w h 0 n c zs := ho.sl (by rw [← (Own.at ho).1]; exact hn) ho.capm
end Go.Proofs.Ytimfabpigpcjhaa
