/- Plain mathematics: the first index at which a test holds; no statement is proved here. -/
import Derived.Test.YtjanjaabcinkiaaBase
namespace Go.Proofs.Ytjanjaabcinkiaa
set_option linter.unusedVariables false
set_option linter.unusedSimpArgs false
/-- the first index below n at which p holds, -1 if there is none -/
@[irreducible] def fstB (p : Nat → Bool) (n : Nat) : Int := match (List.range n).find? p with
  | some i => i
  | none => -1
theorem fstB_at {p : Nat → Bool} {n k : Nat} (hk : k < n) (h : p k = true) (hb : ∀ j, j < k → p j = false) : fstB p n = k := by
  unfold fstB
  have : (List.range n).find? p = some k := by
    rw [List.find?_range_eq_some]
    exact ⟨h, by simpa using hk, fun j hj => by simp [hb j hj]⟩
  rw [this]
theorem fstB_none {p : Nat → Bool} {n : Nat} (hb : ∀ j, j < n → p j = false) : fstB p n = -1 := by
  unfold fstB
  have : (List.range n).find? p = none := by
    rw [List.find?_eq_none]
    intro j hj
    simp [hb j (by simpa using hj)]
  rw [this]
theorem fstB_lt {p : Nat → Bool} {n j : Nat} (hj : j < n) (h : p j = true) : ∃ m : Nat, m ≤ j ∧ fstB p n = m := by
  cases e : (List.range n).find? p with
  | none =>
    rw [List.find?_eq_none] at e
    exact absurd h (e j (by simpa using hj))
  | some m =>
    have e' := e
    rw [List.find?_range_eq_some] at e'
    refine ⟨m, ?_, by unfold fstB; rw [e]⟩
    apply Nat.le_of_not_lt
    intro hlt
    have := e'.2.2 j hlt
    rw [h] at this
    cases this
end Go.Proofs.Ytjanjaabcinkiaa
