/- What the generators of spec draw: lists of ints; no statement is proved here. -/
import Derived.Test.YtimfabpigpcjhaaGen
import Derived.Test.YtimfabpigpcjhaaPuts
namespace Go.Proofs.Ytimfabpigpcjhaa
open Go.ChangeShapes Go.WideShapes Go.ChangeAt Go.RowKit
set_option linter.unusedVariables false
set_option linter.unusedSimpArgs false

/-- a generator's call: it returns a new list of at most L ints, and turns nothing but the reader -/
def PkL (L B g m : Nat) (w : World) : Ending → World → Prop := fun e w' => ∃ h n c zs, e = .returned (.slice (some ⟨h, 0, none⟩) n c) ∧ Own w' w.heap.size 3 (.slice (some ⟨h, 0, none⟩) n c) zs ∧ n ≤ L ∧ Rdr w' B g m ∧ w.grownBy w' (some g)
theorem gb_other {a w w' : World} {row : Option Nat} {h : Nat} (hg : a.grownBy w row) (k : w.grownBy w' (some h)) (hh : a.heap.size ≤ h) : a.grownBy w' row :=
  ⟨k.os.trans hg.os, k.tape.trans hg.tape, k.output.trans hg.output, Nat.le_trans hg.size k.size, fun b hb hr => (k.block b (Nat.lt_of_lt_of_le hb hg.size) (by intro e; injection e with e; omega)).trans (hg.block b hb hr)⟩
theorem Own.other {W w : World} {B : Nat} {E : TypeId} {h n c g : Nat} {zs : List Int} (ho : Own W B E (.slice (some ⟨h, 0, none⟩) n c) zs) (hg : W.grownBy w (some g)) (hne : h ≠ g) : Own w B E (.slice (some ⟨h, 0, none⟩) n c) zs :=
  World.ownsRow.kept ho hg (.inr (fun e => hne (by injection e with e)))
theorem Own.row {w : World} {B : Nat} {E : TypeId} {v : Value} {zs : List Int} {n : Nat} (h : Own w B E v zs) (hl : zs.length = n) : w.ownsRow B E 1 v n (zs.map (Value.int .i64)) := hl ▸ h
/-- what an append of one int to a row of the call's own leaves, beside a reader -/
theorem app_step {w wq w1 : World} {B g m h n c : Nat} {zs : List Int} {v1 : Value} {x : Int} {o : Obj} (hr : Rdr wq B g m) (hH : g < w.heap.size) (hB : B ≤ w.heap.size)
    (ho : Own wq w.heap.size 3 (.slice (some ⟨h, 0, none⟩) n c) zs) (hgb : w.grownBy wq (some g))
    (h1 : w1.ownsRow w.heap.size 3 1 v1 (n + 1) (zs.map (Value.int .i64) ++ [.int .i64 x])) (h2 : (wq.alloc o).grownBy w1 (some h)) :
    ∃ h' c', v1 = .slice (some ⟨h', 0, none⟩) (n + 1) c' ∧ Own w1 w.heap.size 3 (.slice (some ⟨h', 0, none⟩) (n + 1) c') (zs ++ [x]) ∧ Rdr w1 B g m ∧ w.grownBy w1 (some g) := by
  have hl := (Own.at ho).1
  have hh := (Own.at ho).2.1
  subst hl
  have ha := own_app h1
  obtain ⟨g1, c1, rfl⟩ := own_app_form ha rfl
  refine ⟨g1, c1, rfl, ha, ?_, ?_⟩
  · exact (hr.alloc o).grown h2 (by intro e; injection e with e; omega) (fun r hr => by cases hr; omega)
  · exact gb_other (gb_alloc hgb o) h2 hh
end Go.Proofs.Ytimfabpigpcjhaa
