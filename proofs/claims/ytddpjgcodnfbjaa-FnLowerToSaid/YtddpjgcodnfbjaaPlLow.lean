/- The greatest sum, plain law; no statement is proved here. -/
import Derived.Test.YtddpjgcodnfbjaaLower
namespace Go.Proofs.Ytddpjgcodnfbjaa
set_option linter.unusedVariables false
set_option linter.unusedSimpArgs false

/-- the last sum is a sum -/
theorem last_sum (zs : List Int) (N k : Nat) (hk : 1 ≤ k) : ∃ i : Nat, i < k ∧ el (sums zs N k) ((sums zs N k).length - 1) = i ∧ onX zs N i N = true := by
  induction k with
  | zero => omega
  | succ k ih =>
    cases hX : onX zs N k N
    · rw [sums_no hX]
      have hk1 : 1 ≤ k := by
        have : ¬ k = 0 := fun e => by rw [e, onX_nil] at hX; cases hX
        omega
      obtain ⟨i, hi, e, h⟩ := ih hk1
      exact ⟨i, by omega, e, h⟩
    · refine ⟨k, by omega, ?_, hX⟩
      rw [sums_yes hX, List.length_append]
      show el _ ((sums zs N k).length + 1 - 1) = _
      rw [Nat.add_sub_cancel, el_append_at]
theorem last_self {zs : List Int} {N i : Nat} (h : onX zs N i N = true) : el (sums zs N (i + 1)) ((sums zs N (i + 1)).length - 1) = i := by
  rw [sums_yes h, List.length_append]
  show el _ ((sums zs N i).length + 1 - 1) = _
  rw [Nat.add_sub_cancel, el_append_at]
/-- what LowerTo tells: the last sum, and of it the same -/
theorem low_facts {zs : List Int} {a : Int} (hv : vLen zs = true) (ha : 0 ≤ a ∧ a ≤ 200) : ∃ i : Nat, lowI zs a = i ∧ lowI zs i = i ∧ 1 ≤ (sumsR zs a).length ∧ el (sumsR zs a) ((sumsR zs a).length - 1) = i ∧ i ≤ 200 := by
  obtain ⟨i, hi, e, h⟩ := last_sum zs zs.length (a.toNat + 1) (by omega)
  have hs : sumsR zs a = sums zs zs.length (a.toNat + 1) := by unfold sumsR; rw [if_pos ⟨hv, ha⟩]
  refine ⟨i, ?_, ?_, ?_, ?_, by omega⟩
  · unfold lowI; rw [if_pos ⟨hv, ha⟩]; exact e
  · unfold lowI; rw [if_pos ⟨hv, by omega, by omega⟩, Int.toNat_natCast]; exact last_self h
  · rw [hs]; exact sums_pos zs zs.length (by omega)
  · rw [hs]; exact e
theorem low_no {zs : List Int} {a : Int} (h : ¬ (vLen zs = true ∧ 0 ≤ a ∧ a ≤ 200)) : lowI zs a = -1 := by unfold lowI; rw [if_neg h]
end Go.Proofs.Ytddpjgcodnfbjaa
