/- Exchanges bring order: plain law; no program in sight, no statement is proved here. -/
import Derived.Test.YtddpjgcodnfbjaaPlTurn
import Derived.Test.YtddpjgcodnfbjaaSwap
namespace Go.Proofs.Ytddpjgcodnfbjaa
set_option linter.unusedVariables false
set_option linter.unusedSimpArgs false

/-- two neighbours exchanged -/
def sg (i j : Nat) : Nat := if j = i + 1 then i else if j = i then i + 1 else j
def swp (zs : List Int) (i : Nat) : List Int := (zs.set i (el zs (i + 1))).set (i + 1) (el zs i)
theorem swp_length (zs : List Int) (i : Nat) : (swp zs i).length = zs.length := by unfold swp; simp
theorem el_swp {zs : List Int} {i : Nat} (hi : i + 1 < zs.length) (j : Nat) : el (swp zs i) j = el zs (sg i j) := by
  unfold swp sg
  rw [el_set (by rw [List.length_set]; exact hi), el_set (by omega)]
  by_cases e1 : j = i + 1
  · rw [if_pos e1, if_pos e1]
  · rw [if_neg e1, if_neg e1]
    by_cases e2 : j = i
    · rw [if_pos e2, if_pos e2]
    · rw [if_neg e2, if_neg e2]
theorem turn_swp {zs : List Int} {i : Nat} (h : vTurn zs = true) (hi : i + 1 < zs.length) : vTurn (swp zs i) = true := by
  obtain ⟨h1, h2⟩ := vTurn_iff.1 h
  refine vTurn_yes (by rw [swp_length]; exact h1) fun j hj => ?_
  rw [swp_length] at hj
  rw [el_swp hi, swp_length]
  have hs : sg i j < zs.length := by unfold sg; split <;> (try split) <;> omega
  have hk := h2 (sg i j) hs
  refine ⟨hk.1, hk.2.1, fun q hq e => ?_⟩
  rw [el_swp hi] at e
  have hs2 : sg i q < zs.length := by unfold sg; split <;> (try split) <;> omega
  have := turn_inj h hs2 hs e
  unfold sg at this
  split at this <;> split at this <;> (try split at this) <;> (try split at this) <;> omega
/-- how many ahead of k are greater -/
def inv (f : Nat → Int) (x : Int) (k : Nat) : Int := sumTo (fun j => if x < f j then 1 else 0) k
theorem swap_sum (h : Nat → Int) (i : Nat) : ∀ k, i + 2 ≤ k → sumTo (fun j => h (sg i j)) k = sumTo h k
  | 0, hk => by omega
  | k + 1, hk => by
    by_cases e : k = i + 1
    · subst e
      show sumTo (fun j => h (sg i j)) i + h (sg i i) + h (sg i (i + 1)) = sumTo h i + h i + h (i + 1)
      rw [sumTo_congr (f := fun j => h (sg i j)) (g := h) (fun j hj => by unfold sg; rw [if_neg (by omega), if_neg (by omega)])]
      have e1 : sg i i = i + 1 := by unfold sg; rw [if_neg (by omega), if_pos rfl]
      have e2 : sg i (i + 1) = i := by unfold sg; rw [if_pos rfl]
      rw [e1, e2]; omega
    · show sumTo (fun j => h (sg i j)) k + h (sg i k) = sumTo h k + h k
      rw [swap_sum h i k (by omega)]
      have e1 : sg i k = k := by unfold sg; rw [if_neg (by omega), if_neg (by omega)]
      rw [e1]
theorem inv_swap (f : Nat → Int) (i : Nat) : ∀ m, i + 2 ≤ m → sumTo (fun k => inv (fun j => f (sg i j)) (f (sg i k)) k) m = sumTo (fun k => inv f (f k) k) m + (if f i < f (i + 1) then 1 else 0) - (if f (i + 1) < f i then 1 else 0)
  | 0, hm => by omega
  | m + 1, hm => by
    by_cases e : m = i + 1
    · subst e
      have e1 : sg i i = i + 1 := by unfold sg; rw [if_neg (by omega), if_pos rfl]
      have e2 : sg i (i + 1) = i := by unfold sg; rw [if_pos rfl]
      have low : ∀ j, j < i → sg i j = j := fun j hj => by unfold sg; rw [if_neg (by omega), if_neg (by omega)]
      show sumTo (fun k => inv (fun j => f (sg i j)) (f (sg i k)) k) i + inv (fun j => f (sg i j)) (f (sg i i)) i + inv (fun j => f (sg i j)) (f (sg i (i + 1))) (i + 1) = sumTo (fun k => inv f (f k) k) i + inv f (f i) i + inv f (f (i + 1)) (i + 1) + _ - _
      rw [e1, e2]
      have a1 : sumTo (fun k => inv (fun j => f (sg i j)) (f (sg i k)) k) i = sumTo (fun k => inv f (f k) k) i := sumTo_congr fun k hk => by
        rw [low k hk]
        exact sumTo_congr fun j hj => by show (if f k < f (sg i j) then (1 : Int) else 0) = _; rw [low j (by omega)]
      have a2 : ∀ x, inv (fun j => f (sg i j)) x i = inv f x i := fun x => sumTo_congr fun j hj => by show (if x < f (sg i j) then (1 : Int) else 0) = _; rw [low j hj]
      have a3 : inv (fun j => f (sg i j)) (f i) (i + 1) = inv f (f i) i + (if f i < f (i + 1) then 1 else 0) := by
        show sumTo _ i + (if f i < f (sg i i) then 1 else 0) = _
        rw [e1]
        have := a2 (f i)
        unfold inv at this ⊢
        rw [this]
      have a4 : inv f (f (i + 1)) (i + 1) = inv f (f (i + 1)) i + (if f (i + 1) < f i then 1 else 0) := rfl
      rw [a1, a2, a3, a4]
      omega
    · show sumTo (fun k => inv (fun j => f (sg i j)) (f (sg i k)) k) m + inv (fun j => f (sg i j)) (f (sg i m)) m = sumTo (fun k => inv f (f k) k) m + inv f (f m) m + _ - _
      rw [inv_swap f i m (by omega)]
      have e1 : sg i m = m := by unfold sg; rw [if_neg (by omega), if_neg (by omega)]
      have e2 : inv (fun j => f (sg i j)) (f m) m = inv f (f m) m := swap_sum (fun j => if f m < f j then 1 else 0) i m (by omega)
      rw [e1, e2]
      omega
theorem pairsB_inv (zs : List Int) (n : Nat) : pairsB (invF zs) n = sumTo (fun k => inv (el zs) (el zs k) k) n := rfl
/-- the count of exchanges of a turn with two neighbours exchanged -/
theorem swaps_swp {zs : List Int} {i : Nat} (h : vTurn zs = true) (hi : i + 1 < zs.length) : swapsI (swp zs i) = swapsI zs + (if el zs i < el zs (i + 1) then 1 else -1) := by
  unfold swapsI
  rw [turn_swp h hi, h, if_pos rfl, if_pos rfl, swp_length, pairsB_inv, pairsB_inv]
  have e : sumTo (fun k => inv (el (swp zs i)) (el (swp zs i) k) k) zs.length = sumTo (fun k => inv (fun j => el zs (sg i j)) (el zs (sg i k)) k) zs.length := sumTo_congr fun k hk => by
    rw [el_swp hi]
    exact sumTo_congr fun j hj => by rw [el_swp hi]
  rw [e, inv_swap (el zs) i zs.length (by omega)]
  have hne : el zs i ≠ el zs (i + 1) := fun e => by have := turn_inj h (by omega) hi e; omega
  by_cases hlt : el zs i < el zs (i + 1)
  · rw [if_pos hlt, if_neg (by omega), if_pos hlt]; omega
  · rw [if_neg hlt, if_pos (by omega), if_neg hlt]; omega
theorem sum_upto (n : Nat) : 2 * sumTo (fun i => (i : Int)) n = (n : Int) * ((n : Int) - 1) := by
  induction n with
  | zero => simp [sumTo]
  | succ n ih =>
    show 2 * (sumTo (fun i => (i : Int)) n + (n : Int)) = _
    have e : ((n + 1 : Nat) : Int) * (((n + 1 : Nat) : Int) - 1) = (n : Int) * ((n : Int) - 1) + 2 * n := by
      rw [show ((n + 1 : Nat) : Int) - 1 = (n : Int) by omega, show ((n + 1 : Nat) : Int) = (n : Int) + 1 by omega, Int.add_mul, Int.one_mul, Int.mul_sub, Int.mul_one]; omega
    rw [e, ← ih]; omega
theorem sum_ones (n : Nat) : sumTo (fun _ => (1 : Int)) n = n := by
  induction n with
  | zero => rfl
  | succ n ih => show sumTo (fun _ => (1 : Int)) n + 1 = _; rw [ih]; omega
/-- a turn and the turn in reverse order: together all pairs -/
theorem swaps_both {zs : List Int} (h : vTurn zs = true) : 2 * (swapsI zs + swapsI zs.reverse) = (zs.length : Int) * ((zs.length : Int) - 1) := by
  unfold swapsI
  rw [h, turn_rev h, if_pos rfl, if_pos rfl, List.length_reverse]
  have e1 : pairsB (invF zs.reverse) zs.length = pairsB (fun a b => if el zs a < el zs b then 1 else 0) zs.length := by
    rw [← pairs_rev (fun a b => if el zs a < el zs b then 1 else 0) zs.length, ← pairs_eq]
    unfold pairsA
    refine sumTo_congr fun i hi => sumTo_congr fun d hd => ?_
    unfold invF
    rw [el_rev (by omega), el_rev (by omega)]
  rw [e1]
  unfold pairsB
  rw [← sumTo_add, ← sum_upto]
  rw [sumTo_congr (f := fun i => sumTo (fun j => invF zs j i) i + sumTo (fun j => if el zs j < el zs i then 1 else 0) i) (g := fun i => (i : Int)) (fun i hi => by
    show sumTo (fun j => invF zs j i) i + sumTo (fun j => if el zs j < el zs i then 1 else 0) i = (i : Int)
    rw [← sumTo_add, ← sum_ones i]
    refine sumTo_congr fun j hj => ?_
    have hne : el zs j ≠ el zs i := fun e => by have := turn_inj h (by omega) hi e; omega
    unfold invF
    by_cases hlt : el zs i < el zs j
    · rw [if_pos hlt, if_neg (by omega)]; omega
    · rw [if_neg hlt, if_pos (by omega)]; omega)]
theorem swaps_bd {zs : List Int} (h : vTurn zs = true) : 0 ≤ swapsI zs ∧ swapsI zs ≤ 576 := by
  obtain ⟨h1, _⟩ := vTurn_iff.1 h
  unfold swapsI
  rw [h, if_pos rfl]
  have := bA_bd (F := invF zs) (invF_bd zs) zs.length h1
  rwa [bA_pairs] at this
end Go.Proofs.Ytddpjgcodnfbjaa
