/- an array of bools in the heap ([201]bool of SumsOf); no statement is proved here. -/
import Derived.Test.YtddpjgcodnfbjaaSums
namespace Go.Proofs.Ytddpjgcodnfbjaa
open Go.ChangeShapes Go.WideShapes Go.ChangeAt Go.RowKit
set_option linter.unusedVariables false
set_option linter.unusedSimpArgs false

theorem zero57 : Try.zeroCells61.setIfInBounds 0 (.bool true) = ((List.range 201).map fun i => Value.bool (i == 0)).toArray := by kernel_rfl
/-- the cells of the array lie at g and read as f tells -/
def ArrB (w : World) (g : Nat) (f : Nat → Bool) : Prop := g < w.heap.size ∧ ∀ i, i < 201 → w.cell? ⟨g, i, none⟩ = some (.bool (f i)) ∧ w.frozen? ⟨g, i, none⟩ = false
theorem ArrB.below {W w : World} {g : Nat} {f : Nat → Bool} (h : ArrB W g f) (hb : Below W.heap.size W w) : ArrB w g f :=
  ⟨Nat.lt_of_lt_of_le h.1 hb.size, fun i hi => ⟨(hb.cell (p := ⟨g, i, none⟩) h.1).trans (h.2 i hi).1, ((bcell hb).2.1 g i h.1).trans (h.2 i hi).2⟩⟩
theorem ArrB.congr {w : World} {g : Nat} {f f' : Nat → Bool} (h : ArrB w g f) (he : ∀ i, i < 201 → f i = f' i) : ArrB w g f' := ⟨h.1, fun i hi => by rw [← he i hi]; exact h.2 i hi⟩
theorem ArrB.new (w : World) : ArrB (w.alloc (.cells (Try.zeroCells61.setIfInBounds 0 (.bool true)) 61)) w.heap.size (fun i => i == 0) := by
  refine ⟨by simp, fun i hi => ?_⟩
  rw [zero57]
  have e : ∀ o : Obj, (w.alloc o).heap[w.heap.size]? = some o := fun o => by rw [← World.alloc_eq]; simp
  constructor
  · unfold World.cell?; simp only [e]; simp [hi]
  · unfold World.frozen?; simp only [e]; simp
theorem ArrB.set {w : World} {g : Nat} {f : Nat → Bool} (h : ArrB w g f) {j : Nat} (hj : j < 201) (u : Bool) : ArrB (w.setCell ⟨g, j, none⟩ (.bool u)) g (fun i => if i = j then u else f i) := by
  refine ⟨by simp [World.setCell]; exact h.1, fun i hi => ⟨?_, by rw [World.frozen?_setCell]; exact (h.2 i hi).2⟩⟩
  by_cases e : i = j
  · subst e; rw [World.cell?_setCell_same _ _ _ (h.2 i hi).1]; simp
  · rw [World.cell?_setCell_other _ _ _ _ (fun hh => e (congrArg Addr.off hh).symm)]; simp only [if_neg e]; exact (h.2 i hi).1
theorem ArrB.kept {w w' : World} {g : Nat} {f : Nat → Bool} {r : Option Nat} (h : ArrB w g f) (hg : w.grownBy w' r) (hne : r = none ∨ r ≠ some g) : ArrB w' g f := by
  have hne' : r ≠ some g := by
    rcases hne with e | e
    · rw [e]; intro h; cases h
    · exact e
  have e := hg.block g h.1 (by first | exact hne' | exact Ne.symm hne')
  refine ⟨Nat.lt_of_lt_of_le h.1 hg.size, fun i hi => ⟨?_, ?_⟩⟩
  · have := (h.2 i hi).1; unfold World.cell? at this ⊢; simp only [e]; exact this
  · have := (h.2 i hi).2; unfold World.frozen? at this ⊢; simp only [e]; exact this
theorem onF_high (zs : List Int) (N k i : Nat) (h : k ≤ i) : onF zs N k i = false := by
  induction k with
  | zero => exact onF_zero zs N i
  | succ k ih => rw [onF_succ, if_neg (by omega)]; exact ih (by omega)
theorem onF_one (zs : List Int) (N i : Nat) : (i == 0) = onF zs N 1 i := by
  rw [onF_succ]
  by_cases e : i = 0
  · subst e; rw [if_pos rfl, onX_nil]; rfl
  · rw [if_neg e, onF_zero]; simp [e]
end Go.Proofs.Ytddpjgcodnfbjaa
