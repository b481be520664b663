/- Plain mathematics on lists of ints (turns, racks, sums); no program in sight, no statement is proved here. -/
import Derived.Test.YtimfabpigpcjhaaInts
namespace Go.Proofs.Ytimfabpigpcjhaa
set_option linter.unusedVariables false
set_option linter.unusedSimpArgs false

/-- the first index of a number, -1 if it is not there -/
@[irreducible] def placeI (zs : List Int) (n : Int) : Int := if n ∈ zs then (zs.idxOf n : Int) else -1
theorem placeI_hit {zs : List Int} {n : Int} {k : Nat} (hk : k < zs.length) (h : el zs k = n) (hb : ∀ j, j < k → el zs j ≠ n) : placeI zs n = k := by
  unfold placeI
  have hm : n ∈ zs := h ▸ el_mem hk
  rw [if_pos hm]
  have hi : zs.idxOf n < zs.length := List.idxOf_lt_length_of_mem hm
  have he : el zs (zs.idxOf n) = n := by rw [el_get hi]; simp
  have h1 : ¬ zs.idxOf n < k := fun hlt => hb _ hlt he
  have h2 : ¬ k < zs.idxOf n := fun hlt => by
    have := List.not_of_lt_findIdx (p := (· == n)) (xs := zs) (show k < _ from hlt)
    rw [el_get hk] at h
    simp [h] at this
  omega
theorem placeI_none {zs : List Int} {n : Int} (hb : ∀ j, j < zs.length → el zs j ≠ n) : placeI zs n = -1 := by
  unfold placeI
  rw [if_neg]
  intro hm
  obtain ⟨i, hi, he⟩ := mem_el hm
  exact hb i hi he
theorem placeI_cases (zs : List Int) (n : Int) : (placeI zs n = -1 ∧ ∀ j, j < zs.length → el zs j ≠ n) ∨ ∃ k : Nat, k < zs.length ∧ placeI zs n = k ∧ el zs k = n ∧ ∀ j, j < k → el zs j ≠ n := by
  by_cases h : ∃ k, k < zs.length ∧ el zs k = n
  · have hP := h
    obtain ⟨k0, hk0⟩ := h
    have : ∃ k, (k < zs.length ∧ el zs k = n) ∧ ∀ j, j < k → ¬ (j < zs.length ∧ el zs j = n) := by
      induction k0 using Nat.strongRecOn with
      | _ k ih =>
        by_cases hex : ∃ j, j < k ∧ j < zs.length ∧ el zs j = n
        · obtain ⟨j, hj, hj2⟩ := hex
          exact ih j hj hj2
        · exact ⟨k, hk0, fun j hj hc => hex ⟨j, hj, hc⟩⟩
    obtain ⟨k, ⟨hk, he⟩, hm⟩ := this
    have hm' : ∀ j, j < k → el zs j ≠ n := fun j hj hc => hm j hj ⟨by omega, hc⟩
    exact .inr ⟨k, hk, placeI_hit hk he hm', he, hm'⟩
  · have hb : ∀ j, j < zs.length → el zs j ≠ n := fun j hj hc => h ⟨j, hj, hc⟩
    exact .inl ⟨placeI_none hb, hb⟩

/-- the first k numbers of a turn are in order -/
def okT (zs : List Int) (k : Nat) : Prop := ∀ i, i < k → 0 ≤ el zs i ∧ el zs i < zs.length ∧ ∀ j, j < i → el zs j ≠ el zs i
instance (zs : List Int) (k : Nat) : Decidable (okT zs k) := by unfold okT; infer_instance
@[irreducible] def vTurn (zs : List Int) : Bool := decide (zs.length ≤ 24 ∧ okT zs zs.length)
theorem okT_zero (zs : List Int) : okT zs 0 := fun i hi => by omega
theorem okT_succ {zs : List Int} {k : Nat} (h : okT zs k) (h1 : 0 ≤ el zs k) (h2 : el zs k < zs.length) (h3 : ∀ j, j < k → el zs j ≠ el zs k) : okT zs (k + 1) := fun i hi => by
  by_cases e : i = k
  · subst e; exact ⟨h1, h2, h3⟩
  · exact h i (by omega)
theorem vTurn_yes {zs : List Int} (h : zs.length ≤ 24) (h2 : okT zs zs.length) : vTurn zs = true := by unfold vTurn; simp [h, h2]
theorem vTurn_iff {zs : List Int} : vTurn zs = true ↔ zs.length ≤ 24 ∧ okT zs zs.length := by unfold vTurn; simp
theorem vTurn_long {zs : List Int} (h : ¬ zs.length ≤ 24) : vTurn zs = false := by unfold vTurn; simp [h]
theorem vTurn_no {zs : List Int} {k : Nat} (hk : k < zs.length) (h : ¬ (0 ≤ el zs k ∧ el zs k < zs.length ∧ ∀ j, j < k → el zs j ≠ el zs k)) : vTurn zs = false := by
  unfold vTurn
  rw [decide_eq_false]
  intro h2
  exact h (h2.2 k hk)

/-- the first k slots of a rack are in order -/
def okH (zs : List Int) (k : Nat) : Prop := ∀ i, i < k → 0 ≤ el zs i ∧ el zs i ≤ 9999 ∧ (0 < el zs i → ∀ j, j < i → el zs j ≠ el zs i)
instance (zs : List Int) (k : Nat) : Decidable (okH zs k) := by unfold okH; infer_instance
@[irreducible] def vHarp (zs : List Int) : Bool := decide (zs.length ≤ 20 ∧ okH zs zs.length)
theorem okH_zero (zs : List Int) : okH zs 0 := fun i hi => by omega
theorem okH_succ {zs : List Int} {k : Nat} (h : okH zs k) (h1 : 0 ≤ el zs k) (h2 : el zs k ≤ 9999) (h3 : 0 < el zs k → ∀ j, j < k → el zs j ≠ el zs k) : okH zs (k + 1) := fun i hi => by
  by_cases e : i = k
  · subst e; exact ⟨h1, h2, h3⟩
  · exact h i (by omega)
theorem vHarp_yes {zs : List Int} (h : zs.length ≤ 20) (h2 : okH zs zs.length) : vHarp zs = true := by unfold vHarp; simp [h, h2]
theorem vHarp_iff {zs : List Int} : vHarp zs = true ↔ zs.length ≤ 20 ∧ okH zs zs.length := by unfold vHarp; simp
theorem vHarp_long {zs : List Int} (h : ¬ zs.length ≤ 20) : vHarp zs = false := by unfold vHarp; simp [h]
theorem vHarp_no {zs : List Int} {k : Nat} (hk : k < zs.length) (h : ¬ (0 ≤ el zs k ∧ el zs k ≤ 9999 ∧ (0 < el zs k → ∀ j, j < k → el zs j ≠ el zs k))) : vHarp zs = false := by
  unfold vHarp
  rw [decide_eq_false]
  intro h2
  exact h (h2.2 k hk)

/-- sums over the first n numbers -/
def sumTo (f : Nat → Int) : Nat → Int
  | 0 => 0
  | n + 1 => sumTo f n + f n
theorem sumTo_congr {f g : Nat → Int} {n : Nat} (h : ∀ i, i < n → f i = g i) : sumTo f n = sumTo g n := by
  induction n with
  | zero => rfl
  | succ n ih => simp only [sumTo]; rw [ih (fun i hi => h i (by omega)), h n (by omega)]
theorem sumTo_add (f g : Nat → Int) (n : Nat) : sumTo (fun i => f i + g i) n = sumTo f n + sumTo g n := by
  induction n with
  | zero => rfl
  | succ n ih => simp only [sumTo]; rw [ih]; omega
theorem sumTo_bd {f : Nat → Int} {n : Nat} {c : Int} (h : ∀ i, i < n → 0 ≤ f i ∧ f i ≤ c) : 0 ≤ sumTo f n ∧ sumTo f n ≤ n * c := by
  induction n with
  | zero => simp [sumTo]
  | succ n ih =>
    have h1 := ih (fun i hi => h i (by omega))
    have h2 := h n (by omega)
    have h3 : ((n + 1 : Nat) : Int) * c = n * c + c := by rw [Int.natCast_add, Int.add_mul]; simp
    simp only [sumTo]; rw [h3]; omega
/-- from the back -/
theorem sumTo_back (f : Nat → Int) (n : Nat) : sumTo f (n + 1) = f 0 + sumTo (fun i => f (i + 1)) n := by
  induction n with
  | zero => simp [sumTo]
  | succ n ih => rw [sumTo, ih]; simp only [sumTo]; omega
theorem sumTo_rev (f : Nat → Int) (n : Nat) : sumTo (fun i => f (n - 1 - i)) n = sumTo f n := by
  induction n with
  | zero => rfl
  | succ n ih =>
    rw [sumTo_back]
    have h1 : sumTo (fun i => f (n + 1 - 1 - (i + 1))) n = sumTo (fun i => f (n - 1 - i)) n := sumTo_congr (fun i hi => by congr 1; omega)
    rw [h1, ih]
    simp only [sumTo, Nat.add_sub_cancel, Nat.sub_zero]
    omega
/-- pairs: each index with those before it, or with those behind it -/
def pairsB (F : Nat → Nat → Int) (n : Nat) : Int := sumTo (fun i => sumTo (fun j => F j i) i) n
def pairsA (F : Nat → Nat → Int) (n : Nat) : Int := sumTo (fun i => sumTo (fun d => F i (i + 1 + d)) (n - 1 - i)) n
theorem pairs_eq (F : Nat → Nat → Int) (n : Nat) : pairsA F n = pairsB F n := by
  induction n with
  | zero => rfl
  | succ n ih =>
    have h1 : pairsA F (n + 1) = pairsA F n + sumTo (fun j => F j n) n := by
      unfold pairsA
      rw [sumTo]
      have h0 : sumTo (fun d => F n (n + 1 + d)) (n + 1 - 1 - n) = 0 := by simp [sumTo]
      rw [h0, Int.add_zero, ← sumTo_add]
      refine sumTo_congr fun i hi => ?_
      rw [show n + 1 - 1 - i = (n - 1 - i) + 1 by omega, sumTo]
      rw [show i + 1 + (n - 1 - i) = n by omega]
    rw [h1, ih]
    rfl
theorem pairs_rev (F : Nat → Nat → Int) (n : Nat) : pairsA (fun i k => F (n - 1 - k) (n - 1 - i)) n = pairsB F n := by
  unfold pairsA pairsB
  rw [← sumTo_rev (fun i => sumTo (fun j => F j i) i) n]
  refine sumTo_congr fun i hi => ?_
  rw [← sumTo_rev (fun j => F j (n - 1 - i)) (n - 1 - i)]
  refine sumTo_congr fun d hd => ?_
  show F (n - 1 - (i + 1 + d)) (n - 1 - i) = F (n - 1 - i - 1 - d) (n - 1 - i)
  rw [show n - 1 - (i + 1 + d) = n - 1 - i - 1 - d by omega]
end Go.Proofs.Ytimfabpigpcjhaa
