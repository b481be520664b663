/- Sums are made of lengths: plain law; no program in sight, no statement is proved here. -/
import Derived.Test.YtddpjgcodnfbjaaSums2
namespace Go.Proofs.Ytddpjgcodnfbjaa
set_option linter.unusedVariables false
set_option linter.unusedSimpArgs false

theorem mem_sums {zs : List Int} {N k : Nat} {x : Int} : x ∈ sums zs N k ↔ ∃ i : Nat, i < k ∧ x = i ∧ onX zs N i N = true := by
  induction k with
  | zero => simp [sums]
  | succ k ih =>
    cases hX : onX zs N k N
    · rw [sums_no hX, ih]
      constructor
      · rintro ⟨i, hi, h⟩; exact ⟨i, by omega, h⟩
      · rintro ⟨i, hi, e, h⟩
        refine ⟨i, ?_, e, h⟩
        have : i ≠ k := fun e2 => by rw [e2, hX] at h; cases h
        omega
    · rw [sums_yes hX, List.mem_append, ih, List.mem_singleton]
      constructor
      · rintro (⟨i, hi, h⟩ | e)
        · exact ⟨i, by omega, h⟩
        · exact ⟨k, by omega, e, hX⟩
      · rintro ⟨i, hi, e, h⟩
        by_cases e2 : i = k
        · exact .inr (by rw [e, e2])
        · exact .inl ⟨i, by omega, e, h⟩
theorem onF_eq {zs : List Int} {N k i : Nat} (h : i < k) : onF zs N k i = onX zs N i N := by
  induction k with
  | zero => omega
  | succ k ih =>
    rw [onF_succ]
    by_cases e : i = k
    · rw [if_pos e, e]
    · rw [if_neg e]; exact ih (by omega)
theorem onX_iff {zs : List Int} {N k m : Nat} : onX zs N k m = true ↔ k = 0 ∨ ∃ j, j < m ∧ el zs j ≤ k ∧ onF zs N k (k - (el zs j).toNat) = true := by
  induction m with
  | zero => rw [onX_zero]; simp
  | succ m ih =>
    rw [onX_succ, Bool.or_eq_true, ih, Bool.and_eq_true, decide_eq_true_eq]
    constructor
    · rintro ((h | ⟨j, hj, h⟩) | h)
      · exact .inl h
      · exact .inr ⟨j, by omega, h⟩
      · exact .inr ⟨m, by omega, h⟩
    · rintro (h | ⟨j, hj, h⟩)
      · exact .inl (.inl h)
      · by_cases e : j = m
        · subst e; exact .inr h
        · exact .inl (.inr ⟨j, by omega, h⟩)
/-- the list S of sums up to a of lengths zs -/
structure SumsOk (zs : List Int) (n : Nat) (a : Int) (S : List Int) : Prop where
  pos : 1 ≤ S.length
  bd : ∀ i, i < S.length → 0 ≤ el S i ∧ el S i ≤ a
  up : ∀ i j, i < S.length → j < n → el S i + el zs j ≤ a → el S i + el zs j ∈ S
  down : ∀ i, i < S.length → el S i = 0 ∨ ∃ j, j < n ∧ el S i - el zs j ∈ S
  first : el S 0 = 0
  asc : ∀ i, i + 1 < S.length → el S i < el S (i + 1)
theorem sums_last_lt {zs : List Int} {N k i : Nat} (h : i < (sums zs N k).length) : 0 ≤ el (sums zs N k) i ∧ el (sums zs N k) i < k := by
  obtain ⟨q, hq, e, _⟩ := mem_sums.1 (el_mem h)
  omega
theorem sums_asc (zs : List Int) (N k : Nat) : ∀ i, i + 1 < (sums zs N k).length → el (sums zs N k) i < el (sums zs N k) (i + 1) := by
  induction k with
  | zero => intro i hi; simp [sums] at hi
  | succ k ih =>
    cases hX : onX zs N k N
    · rw [sums_no hX]; exact ih
    · rw [sums_yes hX]
      intro i hi
      rw [List.length_append, List.length_singleton] at hi
      rw [el_append_left (by omega)]
      by_cases e : i + 1 < (sums zs N k).length
      · rw [el_append_left e]; exact ih i e
      · have e2 : i + 1 = (sums zs N k).length := by omega
        rw [e2, el_append_at]
        exact (sums_last_lt (by omega)).2
theorem sums_first (zs : List Int) (N k : Nat) (h : 1 ≤ k) : el (sums zs N k) 0 = 0 := by
  induction k with
  | zero => omega
  | succ k ih =>
    by_cases e : k = 0
    · subst e; rw [sums_one]; rfl
    · cases hX : onX zs N k N
      · rw [sums_no hX]; exact ih (by omega)
      · rw [sums_yes hX, el_append_left (by have := sums_pos zs N (k := k) (by omega); omega)]; exact ih (by omega)
theorem sums_ok {zs : List Int} {a : Int} {n : Nat} (hn : zs.length = n) (hv : vLen zs = true) (ha : 0 ≤ a ∧ a ≤ 200) : SumsOk zs n a (sumsR zs a) := by
  subst hn
  have hs : sumsR zs a = sums zs zs.length (a.toNat + 1) := by unfold sumsR; rw [if_pos ⟨hv, ha⟩]
  have hok := (vLen_iff.1 hv).2
  rw [hs]
  refine ⟨sums_pos zs zs.length (by omega), fun i hi => ?_, fun i j hi hj hle => ?_, fun i hi => ?_, sums_first _ _ _ (by omega), sums_asc _ _ _⟩
  · have := sums_last_lt hi; omega
  · obtain ⟨q, hq, e, h⟩ := mem_sums.1 (el_mem hi)
    have hz := hok j hj
    refine mem_sums.2 ⟨q + (el zs j).toNat, by omega, by omega, onX_iff.2 (.inr ⟨j, hj, by omega, ?_⟩)⟩
    rw [Nat.add_sub_cancel, onF_eq (by omega)]; exact h
  · obtain ⟨q, hq, e, h⟩ := mem_sums.1 (el_mem hi)
    rcases onX_iff.1 h with h0 | ⟨j, hj, hle, ho⟩
    · exact .inl (by omega)
    · have hz := hok j hj
      rw [onF_eq (by omega)] at ho
      exact .inr ⟨j, hj, mem_sums.2 ⟨q - (el zs j).toNat, by omega, by omega, ho⟩⟩
/-- whether x is 0, or greater than a sum by one of the first j lengths -/
@[irreducible] def metB (zs S : List Int) (x : Int) (j : Nat) : Bool := (x == 0) || decide (∃ m, m < j ∧ x - el zs m ∈ S)
theorem metB_zero (zs S : List Int) (x : Int) : metB zs S x 0 = (x == 0) := by unfold metB; simp
theorem metB_succ (zs S : List Int) (x : Int) (j : Nat) : metB zs S x (j + 1) = (metB zs S x j || decide (x - el zs j ∈ S)) := by
  unfold metB
  rw [Bool.or_assoc]
  congr 1
  rw [Bool.eq_iff_iff, Bool.or_eq_true, decide_eq_true_eq, decide_eq_true_eq, decide_eq_true_eq]
  constructor
  · rintro ⟨m, hm, h⟩
    by_cases e : m = j
    · subst e; exact .inr h
    · exact .inl ⟨m, by omega, h⟩
  · rintro (⟨m, hm, h⟩ | h)
    · exact ⟨m, by omega, h⟩
    · exact ⟨j, by omega, h⟩
theorem metB_done {zs S : List Int} {n i : Nat} {a : Int} (h : SumsOk zs n a S) (hi : i < S.length) : metB zs S (el S i) n = true := by
  unfold metB
  rcases h.down i hi with h0 | hx
  · rw [h0]; rfl
  · rw [decide_eq_true hx, Bool.or_true]
end Go.Proofs.Ytddpjgcodnfbjaa
