/- Turns, plain law: a turn reversed is a turn, and the sum of its numbers; no program in sight, no statement is proved here. -/
import Derived.Test.YtddpjgcodnfbjaaPlRack
namespace Go.Proofs.Ytddpjgcodnfbjaa
set_option linter.unusedVariables false
set_option linter.unusedSimpArgs false

theorem el_rev {zs : List Int} {i : Nat} (h : i < zs.length) : el zs.reverse i = el zs (zs.length - 1 - i) := by
  rw [el_get (by simpa using h), el_get (by omega)]; simp
theorem turn_inj {zs : List Int} (h : vTurn zs = true) {i j : Nat} (hi : i < zs.length) (hj : j < zs.length) (e : el zs i = el zs j) : i = j := by
  obtain ⟨_, h2⟩ := vTurn_iff.1 h
  rcases Nat.lt_trichotomy i j with hlt | heq | hgt
  · exact absurd e ((h2 j hj).2.2 i hlt)
  · exact heq
  · exact absurd e.symm ((h2 i hi).2.2 j hgt)
theorem turn_rev {zs : List Int} (h : vTurn zs = true) : vTurn zs.reverse = true := by
  obtain ⟨h1, h2⟩ := vTurn_iff.1 h
  refine vTurn_yes (by simpa using h1) fun i hi => ?_
  rw [List.length_reverse] at hi
  rw [el_rev hi, List.length_reverse]
  have hk := h2 (zs.length - 1 - i) (by omega)
  refine ⟨hk.1, hk.2.1, fun j hj e => ?_⟩
  rw [el_rev (by omega)] at e
  have := turn_inj h (by omega) (by omega) e
  omega
/-- numbers less than n, each once, add up to n(n-1)/2 -/
theorem sum_perm : ∀ (n : Nat) (f : Nat → Nat), (∀ i, i < n → f i < n) → (∀ i j, i < n → j < n → f i = f j → i = j) → 2 * sumTo (fun i => (f i : Int)) n = n * (n - 1)
  | 0, _, _, _ => by simp [sumTo]
  | n + 1, f, hb, hi => by
    -- move the greatest number to the last place
    have hex : ∃ k, k < n + 1 ∧ f k = n := by
      apply Classical.byContradiction
      intro hne
      have hlt : ∀ i, i < n + 1 → f i < n := fun i h => by
        have := hb i h
        have : f i ≠ n := fun e => hne ⟨i, h, e⟩
        omega
      exact absurd (pigeon n f hlt) (by
        rintro ⟨i, j, h1, h2, h3, h4⟩
        exact h3 (hi i j h1 h2 h4))
    obtain ⟨k, hk, hfk⟩ := hex
    have hg := sum_perm n (fun i => if i = k then f n else f i) (fun i h => by
      show (if i = k then f n else f i) < n
      by_cases e : i = k
      · rw [if_pos e]
        have h1 := hb n (by omega)
        have : f n ≠ n := fun e2 => by have := hi n k (by omega) hk (by rw [e2, hfk]); omega
        omega
      · rw [if_neg e]
        have h1 := hb i (by omega)
        have : f i ≠ n := fun e2 => e (hi i k (by omega) hk (by rw [e2, hfk]))
        omega) (fun i j h1 h2 h3 => by
      have h3' : (if i = k then f n else f i) = (if j = k then f n else f j) := h3
      by_cases e1 : i = k <;> by_cases e2 : j = k
      · rw [e1, e2]
      · rw [if_pos e1, if_neg e2] at h3'
        have := hi n j (by omega) (by omega) h3'; omega
      · rw [if_neg e1, if_pos e2] at h3'
        have := hi i n (by omega) (by omega) h3'; omega
      · rw [if_neg e1, if_neg e2] at h3'
        exact hi i j (by omega) (by omega) h3')
    have hs := sum_swap n f k hk
    have e : ((n + 1 : Nat) : Int) * (((n + 1 : Nat) : Int) - 1) = (n : Int) * ((n : Int) - 1) + 2 * n := by
      rw [show ((n + 1 : Nat) : Int) - 1 = (n : Int) by omega, show ((n + 1 : Nat) : Int) = (n : Int) + 1 by omega, Int.add_mul, Int.one_mul, Int.mul_sub, Int.mul_one]; omega
    rw [e, ← hg]
    rw [hfk] at hs
    omega
where
  sum_swap : ∀ (n : Nat) (f : Nat → Nat) (k : Nat), k < n + 1 → sumTo (fun i => (f i : Int)) (n + 1) = sumTo (fun i => ((if i = k then f n else f i : Nat) : Int)) n + f k := fun n f k hk => by
    by_cases e : k = n
    · subst e
      show sumTo (fun i => (f i : Int)) k + f k = _
      rw [sumTo_congr (f := fun i => (f i : Int)) (g := fun i => ((if i = k then f k else f i : Nat) : Int)) (fun i hi => by rw [if_neg (by omega)])]
    · have h2 : ∀ m, k < m → m ≤ n → sumTo (fun i => ((if i = k then f n else f i : Nat) : Int)) m + f k = sumTo (fun i => (f i : Int)) m + f n := by
        intro m
        induction m with
        | zero => intro h; omega
        | succ m ih =>
          intro h1 h2
          show sumTo (fun i => ((if i = k then f n else f i : Nat) : Int)) m + ((if m = k then f n else f m : Nat) : Int) + f k = sumTo (fun i => (f i : Int)) m + (f m : Int) + f n
          by_cases e2 : m = k
          · subst e2
            rw [if_pos rfl, sumTo_congr (f := fun i => ((if i = m then f n else f i : Nat) : Int)) (g := fun i => (f i : Int)) (fun i hi => by rw [if_neg (by omega)])]
            omega
          · have := ih (by omega) (by omega)
            rw [if_neg e2]
            omega
      have := h2 n (by omega) (Nat.le_refl _)
      show sumTo (fun i => (f i : Int)) n + f n = _
      omega
  pigeon : ∀ (n : Nat) (f : Nat → Nat), (∀ i, i < n + 1 → f i < n) → ∃ i j, i < n + 1 ∧ j < n + 1 ∧ i ≠ j ∧ f i = f j
    | 0, f, h => by have := h 0 (by omega); omega
    | n + 1, f, h => by
      apply Classical.byContradiction
      intro hne
      have hne' : ∀ i j, i < n + 2 → j < n + 2 → f i = f j → i = j := fun i j h1 h2 e => Classical.byContradiction fun h3 => hne ⟨i, j, h1, h2, h3, e⟩
      -- replace the greatest value by the last one
      obtain ⟨i, j, h1, h2, h3, h4⟩ := pigeon n (fun i => if f i = n then f (n + 1) else f i) (fun i hi => by
        show (if f i = n then f (n + 1) else f i) < n
        have a := h i (by omega)
        have b := h (n + 1) (by omega)
        by_cases e : f i = n
        · rw [if_pos e]
          have : f (n + 1) ≠ n := fun e2 => by have := hne' (n + 1) i (by omega) (by omega) (by rw [e2, e]); omega
          omega
        · rw [if_neg e]; omega)
      have h4' : (if f i = n then f (n + 1) else f i) = (if f j = n then f (n + 1) else f j) := h4
      by_cases e1 : f i = n <;> by_cases e2 : f j = n
      · exact h3 (hne' i j (by omega) (by omega) (by rw [e1, e2]))
      · rw [if_pos e1, if_neg e2] at h4'
        have := hne' (n + 1) j (by omega) (by omega) h4'; omega
      · rw [if_neg e1, if_pos e2] at h4'
        have := hne' i (n + 1) (by omega) (by omega) h4'; omega
      · rw [if_neg e1, if_neg e2] at h4'
        exact h3 (hne' i j (by omega) (by omega) h4')
theorem turn_sum {zs : List Int} (h : vTurn zs = true) : 2 * sumTo (el zs) zs.length = (zs.length : Int) * ((zs.length : Int) - 1) := by
  obtain ⟨h1, h2⟩ := vTurn_iff.1 h
  rw [← sum_perm zs.length (fun i => (el zs i).toNat) (fun i hi => by have := h2 i hi; show (el zs i).toNat < _; omega) (fun i j hi hj e => by
    have a := h2 i hi
    have b := h2 j hj
    exact turn_inj h hi hj (by have e' : (el zs i).toNat = (el zs j).toNat := e; omega))]
  rw [sumTo_congr (f := el zs) (g := fun i => ((el zs i).toNat : Int)) (fun i hi => by have := h2 i hi; omega)]
end Go.Proofs.Ytddpjgcodnfbjaa
