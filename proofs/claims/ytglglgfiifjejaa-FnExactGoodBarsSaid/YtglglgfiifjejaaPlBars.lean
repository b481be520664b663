/- GoodBars, plain law: the loads of bars; no program in sight, no statement is proved here. -/
import Derived.Test.YtglglgfiifjejaaPlRack
namespace Go.Proofs.Ytglglgfiifjejaa
set_option linter.unusedVariables false
set_option linter.unusedSimpArgs false

/-- what lies on bar j of the first k lengths -/
def ldG (zs bs : List Int) : Nat → Nat → Int
  | 0, _ => 0
  | k + 1, j => if (j : Int) = el bs k then ldG zs bs k j + el zs k else ldG zs bs k j
@[irreducible] def ldF (zs bs : List Int) (k j : Nat) : Int := ldG zs bs k j
/-- one more than the greatest bar of the first k -/
def tpG (bs : List Int) : Nat → Nat
  | 0 => 0
  | k + 1 => max (tpG bs k) ((el bs k).toNat + 1)
@[irreducible] def tpF (bs : List Int) (k : Nat) : Nat := tpG bs k
theorem ldF_zero (zs bs : List Int) (j : Nat) : ldF zs bs 0 j = 0 := by unfold ldF; rfl
theorem ldF_succ (zs bs : List Int) (k j : Nat) : ldF zs bs (k + 1) j = if (j : Int) = el bs k then ldF zs bs k j + el zs k else ldF zs bs k j := by unfold ldF; rfl
theorem tpF_zero (bs : List Int) : tpF bs 0 = 0 := by unfold tpF; rfl
theorem tpF_succ (bs : List Int) (k : Nat) : tpF bs (k + 1) = max (tpF bs k) ((el bs k).toNat + 1) := by unfold tpF; rfl
theorem ldF_bd {zs bs : List Int} {c : Int} {n : Nat} (h : ∀ i, i < n → 1 ≤ el zs i ∧ el zs i ≤ c) (hc : 0 ≤ c) (k : Nat) (hk : k ≤ n) (j : Nat) : 0 ≤ ldF zs bs k j ∧ ldF zs bs k j ≤ k * c := by
  induction k with
  | zero => rw [ldF_zero]; simp
  | succ k ih =>
    have h1 := ih (by omega)
    have h2 := h k (by omega)
    have e : ((k + 1 : Nat) : Int) * c = k * c + c := by rw [Int.natCast_succ, Int.add_mul, Int.one_mul]
    rw [ldF_succ, e]
    split <;> omega
theorem ldF_high {zs bs : List Int} {k j : Nat} (h : tpF bs k ≤ j) : ldF zs bs k j = 0 := by
  induction k with
  | zero => exact ldF_zero _ _ _
  | succ k ih =>
    rw [tpF_succ] at h
    rw [ldF_succ, if_neg (by omega), ih (by omega)]
theorem tpF_le {bs : List Int} {n m : Nat} (h : ∀ i, i < n → el bs i < m) (k : Nat) (hk : k ≤ n) (hm : 0 < m ∨ k = 0) : tpF bs k ≤ m := by
  induction k with
  | zero => rw [tpF_zero]; omega
  | succ k ih =>
    have h1 := h k (by omega)
    have h2 := ih (by omega) (.inl (by omega))
    rw [tpF_succ]; omega
end Go.Proofs.Ytglglgfiifjejaa
