/- Plain mathematics: the least difference of the two sides of a rack; no program in sight, no statement is proved here. -/
import Derived.Test.YtimfabpigpcjhaaBal
namespace Go.Proofs.Ytimfabpigpcjhaa
set_option linter.unusedVariables false
set_option linter.unusedSimpArgs false

theorem bal_least {zs : List Int} {n : Nat} (k s : Nat) (hs : s < k) : balD zs n k ≤ difW zs n s := by
  induction k with
  | zero => omega
  | succ k ih =>
    by_cases hc : difW zs n k < balD zs n k
    · rw [(bal_yes hc).2]
      rcases Nat.lt_succ_iff_lt_or_eq.1 hs with e | e
      · have := ih e; omega
      · subst e; exact Int.le_refl _
    · rw [(bal_no hc).2]
      rcases Nat.lt_succ_iff_lt_or_eq.1 hs with e | e
      · exact ih e
      · subst e; omega
theorem bal_at {zs : List Int} {n : Nat} (h : okW zs n) (k : Nat) : balD zs n k = difW zs n (balS zs n k) := by
  induction k with
  | zero => rw [(bal_zero zs n).1, (bal_zero zs n).2, dif_zero h]
  | succ k ih =>
    by_cases hc : difW zs n k < balD zs n k
    · rw [(bal_yes hc).1, (bal_yes hc).2]
    · rw [(bal_no hc).1, (bal_no hc).2]; exact ih
theorem balS_lt2 {zs : List Int} {n : Nat} (k : Nat) (hk : 1 ≤ k) : balS zs n k < k := by
  induction k with
  | zero => omega
  | succ k ih =>
    by_cases hc : difW zs n k < balD zs n k
    · rw [(bal_yes hc).1]; omega
    · rw [(bal_no hc).1]
      by_cases h0 : k = 0
      · subst h0; rw [(bal_zero zs n).1]; omega
      · have := ih (by omega); omega
/-- the set with number i turned -/
def flip (s i : Nat) : Nat := if bt s i = true then s - 2 ^ i else s + 2 ^ i
theorem flip_lt : ∀ n : Nat, n < 8 → ∀ s : Nat, s < 2 ^ n → ∀ i : Nat, i < n → flip s i < 2 ^ n := by decide +kernel
theorem flip_bt : ∀ n : Nat, n < 8 → ∀ s : Nat, s < 2 ^ n → ∀ i : Nat, i < n → ∀ j : Nat, j < n → bt (flip s i) j = if j = i then !bt s j else bt s j := by decide +kernel
theorem flip_sum {zs : List Int} {n s i : Nat} (hn : n ≤ 7) (hs : s < 2 ^ n) (hi : i < n) : bsS zs (flip s i) n = bsS zs s n + (if bt s i = true then - el zs i else el zs i) := by
  have : ∀ k, k ≤ n → bsS zs (flip s i) k = bsS zs s k + (if i < k then (if bt s i = true then - el zs i else el zs i) else 0) := fun k hk => by
    induction k with
    | zero => simp only [bsS_zero]; simp
    | succ k ih =>
      have e := ih (by omega)
      have hf := flip_bt n (by omega) s hs i hi k (by omega)
      by_cases hki : k = i
      · subst hki
        rw [if_pos rfl] at hf
        rw [if_neg (Nat.lt_irrefl _)] at e
        rw [if_pos (by omega)]
        cases hb : bt s k
        · rw [hb] at hf
          rw [bsS_yes hf, bsS_no hb, e]; simp
        · rw [hb] at hf
          rw [bsS_no hf, bsS_yes hb, e]; simp; omega
      · rw [if_neg hki] at hf
        have hlt : (i < k + 1) ↔ (i < k) := by omega
        simp only [hlt]
        cases hb : bt s k
        · rw [hb] at hf
          rw [bsS_no hf, bsS_no hb, e]
        · rw [hb] at hf
          rw [bsS_yes hf, bsS_yes hb, e]; omega
  have h := this n (Nat.le_refl _)
  rwa [if_pos hi] at h
/-- d of the law: the left side less the right side -/
def sgn (zs : List Int) (s : Nat) : Nat → Int
  | 0 => 0
  | k + 1 => sgn zs s k + if bt s k = true then el zs k else - el zs k
@[irreducible] def sgS (zs : List Int) (s k : Nat) : Int := sgn zs s k
theorem sgS_zero (zs : List Int) (s : Nat) : sgS zs s 0 = 0 := by unfold sgS; rfl
theorem sgS_yes {zs : List Int} {s k : Nat} (h : bt s k = true) : sgS zs s (k + 1) = sgS zs s k + el zs k := by
  unfold sgS
  show sgn zs s k + (if bt s k = true then el zs k else - el zs k) = _
  rw [if_pos h]
theorem sgS_no {zs : List Int} {s k : Nat} (h : bt s k = false) : sgS zs s (k + 1) = sgS zs s k - el zs k := by
  unfold sgS
  show sgn zs s k + (if bt s k = true then el zs k else - el zs k) = _
  rw [h]; simp; omega
theorem sgS_eq {zs : List Int} {n s : Nat} (hn : n ≤ 7) : sgS zs s n = 2 * bsS zs s n - totW zs n := by
  rw [totW_eq]
  have : ∀ k, k ≤ n → sgS zs s k = 2 * bsS zs s k - bsS zs (2 ^ n - 1) k := fun k hk => by
    induction k with
    | zero => simp only [sgS_zero, bsS_zero]; omega
    | succ k ih =>
      have e := ih (by omega)
      rw [bsS_yes (all_bt n (by omega) k (by omega))]
      cases hb : bt s k
      · rw [sgS_no hb, bsS_no hb]; omega
      · rw [sgS_yes hb, bsS_yes hb]; omega
  exact this n (Nat.le_refl _)
theorem sgS_bd {zs : List Int} {n : Nat} (h : okW zs n) (s : Nat) {k : Nat} (hk : k ≤ n) : -1000 * (k : Int) ≤ sgS zs s k ∧ sgS zs s k ≤ 1000 * k := by
  induction k with
  | zero => rw [sgS_zero]; omega
  | succ k ih =>
    have := ih (by omega)
    have hb := h k (by omega)
    cases hh : bt s k
    · rw [sgS_no hh]; omega
    · rw [sgS_yes hh]; omega
/-- max d (-d) of the law, and of each d with one weight turned -/
theorem dif_abs {zs : List Int} {n s : Nat} (hn : n ≤ 7) : difW zs n s = if sgS zs s n < -(sgS zs s n) then -(sgS zs s n) else sgS zs s n := by
  have e := sgS_eq (zs := zs) (s := s) hn
  rw [difW_eq]
  split <;> split <;> omega
theorem turn_ge {zs : List Int} {n i : Nat} (h : okW zs n) (hn : n ≤ 7) (hi : i < n) (x : Int) (hx : x = if bt (balS zs n (2 ^ n)) i = true then sgS zs (balS zs n (2 ^ n)) n - 2 * el zs i else sgS zs (balS zs n (2 ^ n)) n + 2 * el zs i) :
    balD zs n (2 ^ n) ≤ if x < -x then -x else x := by
  have hp := (pow_le7 n (by omega)).2
  have hs := balS_lt2 (zs := zs) (n := n) (2 ^ n) hp
  have hl := bal_least (zs := zs) (n := n) (2 ^ n) (flip (balS zs n (2 ^ n)) i) (flip_lt n (by omega) _ hs i hi)
  have hf := flip_sum (zs := zs) hn hs hi
  have e := sgS_eq (zs := zs) (s := balS zs n (2 ^ n)) hn
  rw [difW_eq, hf] at hl
  generalize balS zs n (2 ^ n) = S at *
  by_cases hb : bt S i = true
  · rw [if_pos hb] at hx hl
    split at hl <;> split <;> omega
  · rw [if_neg hb] at hx hl
    split at hl <;> split <;> omega
theorem sg_pos_some {zs : List Int} {n s : Nat} (h : okW zs n) (k : Nat) (hk : k ≤ n) (hp : 0 < bsS zs s k) : ∃ i, i < k ∧ bt s i = true := by
  induction k with
  | zero => rw [bsS_zero] at hp; omega
  | succ k ih =>
    cases hb : bt s k
    · rw [bsS_no hb] at hp
      obtain ⟨i, a, b⟩ := ih (by omega) hp
      exact ⟨i, by omega, b⟩
    · exact ⟨k, by omega, hb⟩
theorem sg_neg_some {zs : List Int} {n s : Nat} (h : okW zs n) (hn : n ≤ 7) (hs : s < 2 ^ n) (hp : bsS zs s n < totW zs n) : ∃ i, i < n ∧ bt s i = false := by
  have hc := compl_sum (zs := zs) hn hs
  obtain ⟨i, hi, hb⟩ := sg_pos_some (s := 2 ^ n - 1 - s) h n (Nat.le_refl _) (by omega)
  rw [compl_bt n (by omega) s hs i hi] at hb
  exact ⟨i, hi, by simpa using hb⟩
theorem out_le {zs : List Int} {n : Nat} (h : okW zs n) (hn : n ≤ 7) (M : Int) (hM0 : 0 ≤ M) (hM : ∀ i, i < n → el zs i ≤ M) : balD zs n (2 ^ n) ≤ M := by
  apply Int.not_lt.1
  intro hlt
  have hp := (pow_le7 n (by omega)).2
  have hs := balS_lt2 (zs := zs) (n := n) (2 ^ n) hp
  have ha := bal_at h (2 ^ n)
  have hd := dif_abs (zs := zs) (s := balS zs n (2 ^ n)) hn
  have e := sgS_eq (zs := zs) (s := balS zs n (2 ^ n)) hn
  have hT := totW_bd h
  have hB := bsS_bd h (balS zs n (2 ^ n)) (Nat.le_refl n)
  by_cases hc : sgS zs (balS zs n (2 ^ n)) n < 0
  · obtain ⟨i, hi, hb⟩ := sg_neg_some h hn hs (by omega)
    have ht := turn_ge h hn hi _ rfl
    rw [hb] at ht
    have hw := h i hi
    have hm := hM i hi
    rw [ha, hd] at ht hlt
    simp only [Bool.false_eq_true, if_false] at ht
    split at ht <;> split at ht <;> split at hlt <;> omega
  · by_cases h0 : 0 < bsS zs (balS zs n (2 ^ n)) n
    · obtain ⟨i, hi, hb⟩ := sg_pos_some h n (Nat.le_refl _) h0
      have ht := turn_ge h hn hi _ rfl
      rw [hb] at ht
      have hw := h i hi
      have hm := hM i hi
      rw [ha, hd] at ht hlt
      simp only [if_true] at ht
      split at ht <;> split at ht <;> split at hlt <;> omega
    · rw [ha, hd] at hlt
      split at hlt <;> omega
end Go.Proofs.Ytimfabpigpcjhaa
