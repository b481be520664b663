/- Copies of slices: copyInts, backwards (spec), slices.Clone; no statement is proved here. -/
import Derived.Test.YtimfabpigpcjhaaTurn
import Derived.WalkSpells
namespace Go.Proofs.Ytimfabpigpcjhaa
open Go.ChangeShapes Go.WideShapes Go.ChangeAt Go.RowKit
set_option linter.unusedVariables false
set_option linter.unusedSimpArgs false

/-- an empty slice that is not nil owns its empty row -/
theorem own_empty (w : World) (B : Nat) (hB : B ≤ w.heap.size) : Own (w.alloc (.cells #[] 3)) B 3 (.slice (some ⟨w.heap.size, 0, none⟩) 0 0) [] :=
  World.ownsRow_lit (size := 1) w #[] 0 hB (by unfold maxLen; omega) rfl
theorem ints_cells {w : World} {b off : Nat} {zs : List Int} (h : IntsAt w b off zs) : ∀ j u, (zs.map (Value.int .i64))[j]? = some u → w.cell? ((⟨b, off, none⟩ : Addr).add j) = some u := by
  intro j u hu
  rw [List.getElem?_map] at hu
  cases hz : zs[j]? with
  | none => rw [hz] at hu; cases hu
  | some z =>
    rw [hz] at hu
    obtain rfl := Option.some.inj hu
    have hj : j < zs.length := (List.getElem?_eq_some_iff.1 hz).1
    rw [Go.WideShapes.add_plain, h j hj, el_get hj]
    obtain ⟨_, he⟩ := List.getElem?_eq_some_iff.1 hz
    rw [he]
theorem ints_one (zs : List Int) : ∀ u ∈ zs.map (Value.int .i64), u.oneCell' = true := by
  intro u hu
  obtain ⟨z, _, rfl⟩ := List.mem_map.1 hu
  rfl
/-- a copy, its length as the argument has it -/
def FrC (E : TypeId) (n : Nat) (zs : List Int) (w : World) : Ending → World → Prop := fun e w' => ∃ g c, e = .returned (.slice (some ⟨g, 0, none⟩) n c) ∧ Own w' w.heap.size E (.slice (some ⟨g, 0, none⟩) n c) zs ∧ Below w.heap.size w w'
theorem FrN.c {P : Program} {f : FuncId} {args : Array Value} {E : TypeId} {n : Nat} {zs : List Int} {w : World} (hn : zs.length = n) (h : Calls P f args w (FrN E zs w)) : Calls P f args w (FrC E n zs w) := by
  subst hn; exact h
/-- a list in reverse -/
theorem rev_el {zs : List Int} {n i : Nat} (hn : zs.length = n) (h : i < n) : el zs.reverse i = el zs (n - 1 - i) := by
  rw [el_get (by simp; omega), el_get (by omega), List.getElem_reverse]
  congr 1
  omega
theorem rev_step {zs : List Int} {n k : Nat} (hn : zs.length = n) (h : k < n) : zs.reverse.take k ++ [el zs (n - 1 - k)] = zs.reverse.take (k + 1) := by
  have hk : k < zs.reverse.length := by simp; omega
  rw [List.take_succ_eq_append_getElem hk, ← rev_el hn h, el_get hk]
end Go.Proofs.Ytimfabpigpcjhaa
