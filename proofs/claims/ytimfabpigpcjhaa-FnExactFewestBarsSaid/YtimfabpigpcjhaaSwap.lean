/- SwapsFor and LiftsOf (spec and impl); no statement is proved here. -/
import Derived.Test.YtimfabpigpcjhaaCopy
namespace Go.Proofs.Ytimfabpigpcjhaa
open Go.ChangeShapes Go.WideShapes Go.ChangeAt Go.RowKit
set_option linter.unusedVariables false
set_option linter.unusedSimpArgs false

/-- a pair of panes in the wrong order on one stack -/
def liftF (xs ss : List Int) (i k : Nat) : Int := if el ss i = el ss k ∧ el xs i < el xs k then 1 else 0
theorem liftF_bd (xs ss : List Int) (i k : Nat) : 0 ≤ liftF xs ss i k ∧ liftF xs ss i k ≤ 1 := by unfold liftF; split <;> omega
@[irreducible] def lS (xs ss : List Int) (i d : Nat) : Int := sumTo (fun d => liftF xs ss i (i + 1 + d)) d
@[irreducible] def lA (xs ss : List Int) (N i : Nat) : Int := sumTo (fun i => lS xs ss i (N - 1 - i)) i
theorem lS_zero (xs ss : List Int) (i : Nat) : lS xs ss i 0 = 0 := by unfold lS; rfl
theorem lS_succ (xs ss : List Int) (i d : Nat) : lS xs ss i (d + 1) = lS xs ss i d + liftF xs ss i (i + 1 + d) := by unfold lS; rfl
theorem lA_zero (xs ss : List Int) (N : Nat) : lA xs ss N 0 = 0 := by unfold lA; rfl
theorem lA_succ (xs ss : List Int) (N i : Nat) : lA xs ss N (i + 1) = lA xs ss N i + lS xs ss i (N - 1 - i) := by unfold lA; rfl
theorem lS_bd (xs ss : List Int) (i d : Nat) : 0 ≤ lS xs ss i d ∧ lS xs ss i d ≤ d := by
  unfold lS
  have := sumTo_bd (f := fun d => liftF xs ss i (i + 1 + d)) (n := d) (c := 1) (fun j _ => liftF_bd _ _ _ _)
  omega
theorem lA_bd (xs ss : List Int) (N i : Nat) (hN : N ≤ 24) (hi : i ≤ 24) : 0 ≤ lA xs ss N i ∧ lA xs ss N i ≤ 576 := by
  unfold lA
  have := sumTo_bd (f := fun i => lS xs ss i (N - 1 - i)) (n := i) (c := 24) (fun j _ => by have := lS_bd xs ss j (N - 1 - j); omega)
  omega
theorem lA_pairs (xs ss : List Int) (N : Nat) : lA xs ss N N = pairsA (liftF xs ss) N := by unfold lA lS; rfl

/-- pairs counted by the index that comes later -/
@[irreducible] def bS (F : Nat → Nat → Int) (i j : Nat) : Int := sumTo (fun j => F j i) j
@[irreducible] def bA (F : Nat → Nat → Int) (i : Nat) : Int := sumTo (fun i => bS F i i) i
theorem bS_zero (F : Nat → Nat → Int) (i : Nat) : bS F i 0 = 0 := by unfold bS; rfl
theorem bS_succ (F : Nat → Nat → Int) (i j : Nat) : bS F i (j + 1) = bS F i j + F j i := by unfold bS; rfl
theorem bA_zero (F : Nat → Nat → Int) : bA F 0 = 0 := by unfold bA; rfl
theorem bA_succ (F : Nat → Nat → Int) (i : Nat) : bA F (i + 1) = bA F i + bS F i i := by unfold bA; rfl
theorem bS_bd {F : Nat → Nat → Int} (hF : ∀ i k, 0 ≤ F i k ∧ F i k ≤ 1) (i j : Nat) : 0 ≤ bS F i j ∧ bS F i j ≤ j := by
  unfold bS
  have := sumTo_bd (f := fun j => F j i) (n := j) (c := 1) (fun j _ => hF _ _)
  omega
theorem bA_bd {F : Nat → Nat → Int} (hF : ∀ i k, 0 ≤ F i k ∧ F i k ≤ 1) (i : Nat) (hi : i ≤ 24) : 0 ≤ bA F i ∧ bA F i ≤ 576 := by
  unfold bA
  have := sumTo_bd (f := fun i => bS F i i) (n := i) (c := 24) (fun j hj => by have := bS_bd hF j j; omega)
  omega
theorem bA_pairs (F : Nat → Nat → Int) (N : Nat) : bA F N = pairsB F N := by unfold bA bS; rfl
/-- a pair of which the one that comes first is delivered later -/
def invF (xs : List Int) (j i : Nat) : Int := if el xs i < el xs j then 1 else 0
theorem invF_bd (xs : List Int) (i k : Nat) : 0 ≤ invF xs i k ∧ invF xs i k ≤ 1 := by unfold invF; split <;> omega
def swapsI (zs : List Int) : Int := if vTurn zs = true then pairsB (invF zs) zs.length else -1
theorem swaps_rev (xs ss : List Int) (n : Nat) (hn : xs.length = n) (hs : ∀ i k, i < n → k < n → el ss i = el ss k) : pairsA (liftF xs.reverse ss) n = pairsB (invF xs) n := by
  rw [← pairs_rev]
  unfold pairsA
  refine sumTo_congr fun i hi => sumTo_congr fun d hd => ?_
  unfold liftF invF
  rw [rev_el hn hi, rev_el hn (by omega)]
  have := hs i (i + 1 + d) hi (by omega)
  simp [this]

end Go.Proofs.Ytimfabpigpcjhaa
