/- SwapsFor of spec, LiftsOf of spec and impl, and both laws' walks; no statement is proved here. -/
import Derived.Test.YtimfabpigpcjhaaSwap
namespace Go.Proofs.Ytimfabpigpcjhaa
open Go.ChangeShapes Go.WideShapes Go.ChangeAt Go.RowKit
set_option linter.unusedVariables false
set_option linter.unusedSimpArgs false

theorem FrN.sl {E : TypeId} {zs : List Int} {B : Nat} {g cap : Nat} {w : World} (ho : Own w B E (.slice (some ⟨g, 0, none⟩) zs.length cap) zs) (hs : zs.length ≤ 1048576) : Sl w g 0 zs.length cap zs := ho.sl hs ho.capm
theorem below_undrew {B : Nat} {w w' : World} (h : Below B w.drew w') : Below B w w' := ⟨h.os, h.tape, h.output, h.size, h.block⟩
/-- a fresh row of zeros -/
theorem zeros_own (w : World) (n : Nat) (hn : n ≤ maxLen) : Own (w.alloc (.cells (madeCells #[Value.int .i64 0] n) 3)) w.heap.size 3 (.slice (some ⟨w.heap.size, 0, none⟩) n n) (List.replicate n 0) := by
  unfold Own
  have := World.ownsRow_lit (size := 1) (base := w.heap.size) (e := 3) w (madeCells #[Value.int .i64 0] n) n (Nat.le_refl _) hn (by rw [size_madeCells]; omega)
  rw [List.length_replicate, List.map_replicate, ← toList_madeCells_one]
  exact this
theorem zeros_sl (w : World) (n : Nat) (hn : n ≤ 1048576) : Sl (w.alloc (.cells (madeCells #[Value.int .i64 0] n) 3)) w.heap.size 0 n n (List.replicate n 0) :=
  (zeros_own w n (by unfold maxLen; omega)).sl (by rw [List.length_replicate]; exact hn) (by unfold maxLen; omega)
theorem el_zeros {n i : Nat} (h : i < n) : el (List.replicate n 0) i = 0 := by rw [el_get (by simpa using h)]; simp
/-- as many numbers of stacks as panes, each in 0..23 -/
def okSt (ss : List Int) (k : Nat) : Prop := ∀ i, i < k → 0 ≤ el ss i ∧ el ss i ≤ 23
instance (ss : List Int) (k : Nat) : Decidable (okSt ss k) := by unfold okSt; infer_instance
@[irreducible] def vStacks (xs ss : List Int) : Bool := vTurn xs && decide (ss.length = xs.length) && decide (okSt ss ss.length)
theorem okSt_succ {ss : List Int} {k : Nat} (h : okSt ss k) (h1 : 0 ≤ el ss k ∧ el ss k ≤ 23) : okSt ss (k + 1) := fun i hi => by
  by_cases e : i = k
  · subst e; exact h1
  · exact h i (by omega)
theorem vStacks_no {xs ss : List Int} {k : Nat} (hk : k < ss.length) (h : ¬ (0 ≤ el ss k ∧ el ss k ≤ 23)) : vStacks xs ss = false := by
  unfold vStacks
  rw [decide_eq_false (p := okSt ss ss.length) (fun h2 => h (h2 k hk))]
  simp
theorem vStacks_ok {xs ss : List Int} (h : okSt ss ss.length) : vStacks xs ss = (vTurn xs && decide (ss.length = xs.length)) := by
  unfold vStacks; simp [h]
theorem vStacks_iff {xs ss : List Int} : vStacks xs ss = true ↔ vTurn xs = true ∧ ss.length = xs.length ∧ okSt ss ss.length := by
  unfold vStacks; simp [and_assoc]
def liftsI (xs ss : List Int) : Int := if vStacks xs ss = true then pairsB (liftF xs ss) xs.length else -1
end Go.Proofs.Ytimfabpigpcjhaa
