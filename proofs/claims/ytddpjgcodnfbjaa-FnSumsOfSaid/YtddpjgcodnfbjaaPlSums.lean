/- SumsOf, plain law: which numbers are sums; no program in sight, no statement is proved here. -/
import Derived.Test.YtddpjgcodnfbjaaPlRack
namespace Go.Proofs.Ytddpjgcodnfbjaa
set_option linter.unusedVariables false
set_option linter.unusedSimpArgs false

/-- the number k is a sum, as the first m lengths tell it from the smaller numbers f -/
def onAt (zs : List Int) (f : Nat → Bool) (k : Nat) : Nat → Bool
  | 0 => k == 0
  | m + 1 => onAt zs f k m || (decide (el zs m ≤ k) && f (k - (el zs m).toNat))
/-- which of the first k numbers are sums -/
def onTo (zs : List Int) (N : Nat) : Nat → Nat → Bool
  | 0, _ => false
  | k + 1, i => if i = k then onAt zs (onTo zs N k) k N else onTo zs N k i
@[irreducible] def onF (zs : List Int) (N k i : Nat) : Bool := onTo zs N k i
@[irreducible] def onX (zs : List Int) (N k m : Nat) : Bool := onAt zs (onTo zs N k) k m
theorem onF_zero (zs : List Int) (N i : Nat) : onF zs N 0 i = false := by unfold onF; rfl
theorem onF_succ (zs : List Int) (N k i : Nat) : onF zs N (k + 1) i = if i = k then onX zs N k N else onF zs N k i := by unfold onF onX; rfl
theorem onX_zero (zs : List Int) (N k : Nat) : onX zs N k 0 = (k == 0) := by unfold onX; rfl
theorem onX_succ (zs : List Int) (N k m : Nat) : onX zs N k (m + 1) = (onX zs N k m || (decide (el zs m ≤ k) && onF zs N k (k - (el zs m).toNat))) := by unfold onX onF; rfl
/-- the sums among the first k numbers -/
def sums (zs : List Int) (N : Nat) : Nat → List Int
  | 0 => []
  | k + 1 => if onX zs N k N = true then sums zs N k ++ [(k : Int)] else sums zs N k
theorem sums_yes {zs : List Int} {N k : Nat} (h : onX zs N k N = true) : sums zs N (k + 1) = sums zs N k ++ [(k : Int)] := by
  conv => lhs; unfold sums
  rw [if_pos h]
theorem sums_no {zs : List Int} {N k : Nat} (h : onX zs N k N = false) : sums zs N (k + 1) = sums zs N k := by
  conv => lhs; unfold sums
  rw [h]; rfl
theorem sums_length (zs : List Int) (N k : Nat) : (sums zs N k).length ≤ k := by
  induction k with
  | zero => exact Nat.le_refl _
  | succ k ih =>
    cases h : onX zs N k N
    · rw [sums_no h]; omega
    · rw [sums_yes h]; simp; omega
theorem onX_nil (zs : List Int) (N m : Nat) : onX zs N 0 m = true := by
  induction m with
  | zero => rw [onX_zero]; rfl
  | succ m ih => rw [onX_succ, ih]; rfl
/-- 0 is a sum -/
theorem sums_one (zs : List Int) (N : Nat) : sums zs N 1 = [0] := by rw [sums_yes (onX_nil zs N N)]; rfl
theorem sums_pos (zs : List Int) (N : Nat) {k : Nat} (h : 1 ≤ k) : 1 ≤ (sums zs N k).length := by
  induction k with
  | zero => omega
  | succ k ih =>
    by_cases e : k = 0
    · subst e; rw [sums_one]; exact Nat.le_refl _
    · have := ih (by omega)
      cases h : onX zs N k N
      · rw [sums_no h]; exact this
      · rw [sums_yes h]; simp
/-- lengths, at most 24, each in 1..200 -/
def okLen (zs : List Int) (k : Nat) : Prop := ∀ i, i < k → 1 ≤ el zs i ∧ el zs i ≤ 200
instance (zs : List Int) (k : Nat) : Decidable (okLen zs k) := by unfold okLen; infer_instance
@[irreducible] def vLen (zs : List Int) : Bool := decide (zs.length ≤ 24) && decide (okLen zs zs.length)
theorem okLen_succ {zs : List Int} {k : Nat} (h : okLen zs k) (h1 : 1 ≤ el zs k ∧ el zs k ≤ 200) : okLen zs (k + 1) := fun i hi => by
  by_cases e : i = k
  · subst e; exact h1
  · exact h i (by omega)
theorem vLen_iff {zs : List Int} : vLen zs = true ↔ zs.length ≤ 24 ∧ okLen zs zs.length := by unfold vLen; simp
theorem vLen_no {zs : List Int} {k : Nat} (hk : k < zs.length) (h : ¬ (1 ≤ el zs k ∧ el zs k ≤ 200)) : vLen zs = false := by
  unfold vLen
  rw [decide_eq_false (p := okLen zs zs.length) (fun h2 => h (h2 k hk))]
  simp
theorem vLen_ok {zs : List Int} (h : okLen zs zs.length) : vLen zs = decide (zs.length ≤ 24) := by unfold vLen; simp [h]
end Go.Proofs.Ytddpjgcodnfbjaa
