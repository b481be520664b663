/- Plain mathematics: the greedy stacks are as many as the longest rise is long; no program in sight, no statement is proved here. -/
import Derived.Test.YtimfabpigpcjhaaPlRack
namespace Go.Proofs.Ytimfabpigpcjhaa
set_option linter.unusedVariables false
set_option linter.unusedSimpArgs false

/-- the longest rise that ends at index k, out of those that end at the first m -/
def riseAt (zs R : List Int) (k : Nat) : Nat → Int
  | 0 => 1
  | m + 1 => if el zs m < el zs k then max (riseAt zs R k m) (el R m + 1) else riseAt zs R k m
/-- the lengths of the longest rises that end at each of the first k -/
def risesL (zs : List Int) : Nat → List Int
  | 0 => []
  | k + 1 => risesL zs k ++ [riseAt zs (risesL zs k) k k]
theorem risesL_length (zs : List Int) (k : Nat) : (risesL zs k).length = k := by induction k with | zero => rfl | succ k ih => simp [risesL, ih]
theorem risesL_el {zs : List Int} {k j : Nat} (h : j < k) : el (risesL zs k) j = riseAt zs (risesL zs j) j j := by
  induction k with
  | zero => omega
  | succ k ih =>
    by_cases e : j = k
    · subst e
      have := el_append_at (zs := risesL zs j) (x := riseAt zs (risesL zs j) j j)
      rw [risesL_length] at this
      exact this
    · have h1 : j < (risesL zs k).length := by rw [risesL_length]; omega
      rw [risesL, el_append_left h1, ih (by omega)]
theorem riseAt_pos (zs R : List Int) (k m : Nat) : 1 ≤ riseAt zs R k m := by
  induction m with
  | zero => simp [riseAt]
  | succ m ih => unfold riseAt; split <;> omega
theorem riseAt_ge {zs R : List Int} {k m j : Nat} (h : j < m) (hlt : el zs j < el zs k) : el R j + 1 ≤ riseAt zs R k m := by
  induction m with
  | zero => omega
  | succ m ih =>
    unfold riseAt
    by_cases e : j = m
    · subst e; rw [if_pos hlt]; omega
    · have := ih (by omega)
      split <;> omega
theorem riseAt_le {zs R : List Int} {k m : Nat} {c : Int} (h1 : 1 ≤ c) (h : ∀ j, j < m → el zs j < el zs k → el R j + 1 ≤ c) : riseAt zs R k m ≤ c := by
  induction m with
  | zero => simpa [riseAt] using h1
  | succ m ih =>
    have := ih (fun j hj => h j (by omega))
    unfold riseAt
    split
    · rename_i hlt
      have := h m (by omega) hlt
      omega
    · exact this
theorem riseAt_congr {zs R R' : List Int} {k m : Nat} (h : ∀ j, j < m → el R j = el R' j) : riseAt zs R k m = riseAt zs R' k m := by
  induction m with
  | zero => rfl
  | succ m ih => unfold riseAt; rw [ih (fun j hj => h j (by omega)), h m (by omega)]

/-- the first stack whose top is not less -/
def firstS (tops : List Int) (x : Int) : Nat → Nat
  | 0 => tops.length
  | f + 1 => if el tops (tops.length - (f + 1)) < x then firstS tops x f else tops.length - (f + 1)
/-- s is the first stack whose top is not less than x, or a new one -/
def IsFirst (tops : List Int) (x : Int) (s : Nat) : Prop := s ≤ tops.length ∧ (∀ p, p < s → el tops p < x) ∧ (s < tops.length → x ≤ el tops s)
theorem firstS_spec (tops : List Int) (x : Int) (f : Nat) (hf : f ≤ tops.length) (hp : ∀ p, p < tops.length - f → el tops p < x) : IsFirst tops x (firstS tops x f) := by
  induction f with
  | zero => exact ⟨Nat.le_refl _, fun p hp' => hp p (by have : p < tops.length := hp'; omega), fun h => absurd (show tops.length < tops.length from h) (by omega)⟩
  | succ f ih =>
    unfold firstS
    by_cases hc : el tops (tops.length - (f + 1)) < x
    · rw [if_pos hc]
      refine ih (by omega) fun p hp' => ?_
      by_cases e : p = tops.length - (f + 1)
      · subst e; exact hc
      · exact hp p (by omega)
    · rw [if_neg hc]
      exact ⟨by omega, hp, fun _ => by omega⟩
theorem IsFirst.unique {tops : List Int} {x : Int} {s t : Nat} (h : IsFirst tops x s) (h' : IsFirst tops x t) : s = t := by
  obtain ⟨a1, a2, a3⟩ := h
  obtain ⟨b1, b2, b3⟩ := h'
  by_cases h1 : s < t
  · have := b2 s h1; have := a3 (by omega); omega
  · by_cases h2 : t < s
    · have := a2 t h2; have := b3 (by omega); omega
    · omega
def putTop (tops : List Int) (s : Nat) (x : Int) : List Int := if s < tops.length then tops.set s x else tops ++ [x]
/-- the tops and the stacks of the first k panes -/
def greedy (zs : List Int) : Nat → List Int × List Int
  | 0 => ([], [])
  | k + 1 => let t := (greedy zs k).1; let s := firstS t (el zs k) t.length; (putTop t s (el zs k), (greedy zs k).2 ++ [(s : Int)])
theorem greedy_length (zs : List Int) (k : Nat) : (greedy zs k).2.length = k := by induction k with | zero => rfl | succ k ih => simp [greedy, ih]
/-- what holds of the tops: they ascend, each is the number of a pane that lies there, and each pane's stack has a top that is not greater -/
structure Good (zs : List Int) (k : Nat) (tops out : List Int) : Prop where
  len : out.length = k
  short : tops.length ≤ k
  asc : ∀ p q, p < q → q < tops.length → el tops p < el tops q
  from' : ∀ p, p < tops.length → ∃ j, j < k ∧ el zs j = el tops p ∧ el out j = p
  le : ∀ j, j < k → ∃ p : Nat, p < tops.length ∧ el out j = p ∧ el tops p ≤ el zs j
  rise : ∀ j, j < k → el (risesL zs k) j = el out j + 1
theorem putTop_length {tops : List Int} {s : Nat} {x : Int} (h : s ≤ tops.length) : (putTop tops s x).length = max tops.length (s + 1) := by
  unfold putTop; split <;> simp <;> omega
theorem putTop_el {tops : List Int} {s i : Nat} {x : Int} (h : s ≤ tops.length) (hi : i < (putTop tops s x).length) : el (putTop tops s x) i = if i = s then x else el tops i := by
  rw [putTop_length h] at hi
  unfold putTop
  split
  · rename_i hs; exact el_set hs
  · have e : s = tops.length := by omega
    subst e
    by_cases e2 : i = tops.length
    · subst e2; rw [if_pos rfl]; exact el_append_at
    · rw [if_neg e2]; exact el_append_left (by omega)
theorem good_step {zs tops out : List Int} {k s : Nat} (g : Good zs k tops out) (hk : k < zs.length) (hd : ∀ j, j < k → el zs j ≠ el zs k) (hs : IsFirst tops (el zs k) s) :
    Good zs (k + 1) (putTop tops s (el zs k)) (out ++ [(s : Int)]) := by
  obtain ⟨h1, h2, h3⟩ := hs
  have hlen := putTop_length (x := el zs k) h1
  have hel := fun i hi => putTop_el (x := el zs k) (i := i) h1 hi
  have hout : ∀ j, j < k → el (out ++ [(s : Int)]) j = el out j := fun j hj => el_append_left (by rw [g.len]; exact hj)
  have hnew : el (out ++ [(s : Int)]) k = s := by have := el_append_at (zs := out) (x := (s : Int)); rwa [g.len] at this
  have hgt : s < tops.length → el zs k < el tops s := fun h => by
    obtain ⟨j, hj, he, _⟩ := g.from' s h
    have h4 := h3 h
    have h5 := hd j hj
    omega
  have hr : riseAt zs (risesL zs k) k k = (s : Int) + 1 := by
    have hup : riseAt zs (risesL zs k) k k ≤ (s : Int) + 1 := riseAt_le (by omega) fun j hj hlt => by
      rw [g.rise j hj]
      obtain ⟨p, hp, he, hle⟩ := g.le j hj
      have : p < s := by
        by_cases hps : p < s
        · exact hps
        · exfalso
          by_cases e : p = s
          · subst e; have := hgt hp; omega
          · have := g.asc s p (by omega) hp
            have := hgt (by omega)
            omega
      omega
    by_cases hs0 : s = 0
    · subst hs0
      have := riseAt_pos zs (risesL zs k) k k
      omega
    · have h5 := h2 (s - 1) (by omega)
      obtain ⟨j, hj, he, ho⟩ := g.from' (s - 1) (by omega)
      have h6 := riseAt_ge (R := risesL zs k) (m := k) hj (by omega : el zs j < el zs k)
      rw [g.rise j hj, ho] at h6
      omega
  refine ⟨by simp [g.len], by have := g.short; omega, ?_, ?_, ?_, ?_⟩
  · intro p q hpq hq
    rw [hel p (by omega), hel q hq]
    rw [hlen] at hq
    by_cases e1 : p = s
    · subst e1
      rw [if_pos rfl, if_neg (by omega)]
      have := hgt (by omega)
      have := g.asc p q hpq (by omega)
      omega
    · rw [if_neg e1]
      by_cases e2 : q = s
      · subst e2
        rw [if_pos rfl]
        exact h2 p hpq
      · rw [if_neg e2]
        exact g.asc p q hpq (by omega)
  · intro p hp
    rw [hel p hp]
    rw [hlen] at hp
    by_cases e : p = s
    · subst e; exact ⟨k, by omega, by rw [if_pos rfl], hnew⟩
    · obtain ⟨j, hj, he, ho⟩ := g.from' p (by omega)
      exact ⟨j, by omega, by rw [if_neg e]; exact he, by rw [hout j hj]; exact ho⟩
  · intro j hj
    by_cases e : j = k
    · subst e; exact ⟨s, by omega, hnew, by rw [hel s (by omega), if_pos rfl]; exact Int.le_refl _⟩
    · obtain ⟨p, hp, ho, hle⟩ := g.le j (by omega)
      refine ⟨p, by omega, by rw [hout j (by omega)]; exact ho, ?_⟩
      rw [hel p (by omega)]
      by_cases e2 : p = s
      · subst e2; rw [if_pos rfl]; have := hgt hp; omega
      · rw [if_neg e2]; exact hle
  · intro j hj
    by_cases e : j = k
    · subst e
      rw [risesL_el (by omega), hr, hnew]
    · rw [risesL_el hj, ← risesL_el (show j < k by omega), g.rise j (by omega), hout j (by omega)]
theorem greedy_good {zs : List Int} {k : Nat} (h : okT zs zs.length) (hk : k ≤ zs.length) : Good zs k (greedy zs k).1 (greedy zs k).2 := by
  induction k with
  | zero => exact ⟨rfl, Nat.le_refl _, fun p q _ hq => by simp [greedy] at hq, fun p hp => by simp [greedy] at hp, fun j hj => by omega, fun j hj => by omega⟩
  | succ k ih => exact good_step (ih (by omega)) (by omega) (h k (by omega)).2.2 (firstS_spec _ _ _ (Nat.le_refl _) (fun p hp => by omega))

/-- the greatest of the first n and what was before -/
def maxTo (xs : List Int) (c d : Int) : Nat → Int
  | 0 => c
  | n + 1 => max (maxTo xs c d n) (el xs n + d)
theorem maxTo_congr {xs ys : List Int} {c d d' : Int} {n : Nat} (h : ∀ j, j < n → el xs j + d = el ys j + d') : maxTo xs c d n = maxTo ys c d' n := by
  induction n with
  | zero => rfl
  | succ n ih => unfold maxTo; rw [ih (fun j hj => h j (by omega)), h n (by omega)]
theorem stacks_eq {zs : List Int} (h : okT zs zs.length) : maxTo (greedy zs zs.length).2 0 1 zs.length = maxTo (risesL zs zs.length) 0 0 zs.length :=
  maxTo_congr fun j hj => by have := (greedy_good h (Nat.le_refl _)).rise j hj; omega
end Go.Proofs.Ytimfabpigpcjhaa
