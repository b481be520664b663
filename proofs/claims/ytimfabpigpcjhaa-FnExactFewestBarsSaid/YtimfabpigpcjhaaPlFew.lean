/- Plain mathematics: the least number of fitting groups that make up a set; no program in sight, no statement is proved here. -/
import Derived.Test.YtimfabpigpcjhaaBit
import Derived.Test.YtimfabpigpcjhaaBars
namespace Go.Proofs.Ytimfabpigpcjhaa
set_option linter.unusedVariables false
set_option linter.unusedSimpArgs false

def sub (a b : Nat) : Bool := decide (a &&& b = a)
theorem sub_step : ∀ a : Nat, a < 128 → ∀ b : Nat, b < 128 → 0 < a → sub a b = (!decide (b % 2 < a % 2) && sub (a / 2) (b / 2)) := by decide +kernel
theorem sub_zero (b : Nat) : sub 0 b = true := by simp [sub]
theorem sub_self : ∀ s : Nat, s < 128 → sub s s = true := by decide +kernel
theorem sub_diff : ∀ s : Nat, s < 128 → ∀ o : Nat, o < 128 → sub o s = true → o ≤ s ∧ bits .andNot .i64 (s : Int) (o : Int) = ((s - o : Nat) : Int) := by decide +kernel
theorem and_next : ∀ s : Nat, s < 128 → ∀ g : Nat, g < 128 → 0 < g → bits .and .i64 ((g : Int) - 1) (s : Int) = (((g - 1) &&& s : Nat) : Int) := by decide +kernel
theorem sub_next1 : ∀ s : Nat, s < 128 → ∀ g : Nat, g < 128 → sub g s = true → 0 < g → sub ((g - 1) &&& s) s = true ∧ ((g - 1) &&& s) < g := by decide +kernel
theorem sub_next2 : ∀ s : Nat, s < 128 → ∀ g : Nat, g < 128 → sub g s = true → ∀ o : Nat, o < g → sub o s = true → o ≤ ((g - 1) &&& s) := by decide +kernel
theorem some_bit : ∀ n : Nat, n < 8 → ∀ s : Nat, s < 2 ^ n → 0 < s → ∃ i, i < n ∧ sub (2 ^ i) s = true := by decide +kernel
def pc (s : Nat) : Nat := s % 2 + s / 2 % 2 + s / 4 % 2 + s / 8 % 2 + s / 16 % 2 + s / 32 % 2 + s / 64 % 2
theorem pc_le : ∀ n : Nat, n < 8 → ∀ s : Nat, s < 2 ^ n → pc s ≤ n := by decide +kernel
theorem pc_sub : ∀ s : Nat, s < 128 → ∀ i : Nat, i < 7 → sub (2 ^ i) s = true → pc (s - 2 ^ i) + 1 = pc s := by decide +kernel
theorem one_bt : ∀ i : Nat, i < 7 → ∀ j : Nat, j < 7 → bt (2 ^ i) j = decide (i = j) := by decide +kernel
theorem pow_pos2 : ∀ i : Nat, i < 8 → 0 < 2 ^ i ∧ 2 ^ i ≤ 128 := by decide

/-- v is the least of 1 + T (s - o) over the fitting parts o of s -/
def IsMin (f : Nat → Bool) (T : Nat → Int) (s : Nat) (v : Int) : Prop :=
  (∃ o, 0 < o ∧ o ≤ s ∧ sub o s = true ∧ f o = true ∧ v = 1 + T (s - o)) ∧ ∀ o, 0 < o → o ≤ s → sub o s = true → f o = true → v ≤ 1 + T (s - o)
def Tab (f : Nat → Bool) (T : Nat → Int) (N : Nat) : Prop := T 0 = 0 ∧ ∀ s, 0 < s → s < N → IsMin f T s (T s)
theorem tab_same {f : Nat → Bool} {T U : Nat → Int} {N : Nat} (h : Tab f T N) (h2 : Tab f U N) (s : Nat) (hs : s < N) : T s = U s := by
  induction s using Nat.strongRecOn with
  | _ s ih =>
    by_cases h0 : 0 < s
    · obtain ⟨⟨o, a, b, c, d, e⟩, m⟩ := h.2 s h0 hs
      obtain ⟨⟨o', a', b', c', d', e'⟩, m'⟩ := h2.2 s h0 hs
      have r := m o' a' b' c' d'
      have r' := m' o a b c d
      rw [ih (s - o) (by omega) (by omega)] at e
      rw [ih (s - o') (by omega) (by omega)] at r
      omega
    · obtain rfl : s = 0 := by omega
      rw [h.1, h2.1]
theorem isMin_congr {f : Nat → Bool} {T U : Nat → Int} {s : Nat} {v : Int} (h : IsMin f T s v) (e : ∀ k, k < s → U k = T k) : IsMin f U s v := by
  obtain ⟨⟨o, a, b, c, d, q⟩, m⟩ := h
  exact ⟨⟨o, a, b, c, d, by rw [e _ (by omega)]; exact q⟩, fun o a b c d => by rw [e _ (by omega)]; exact m o a b c d⟩
theorem tab_succ {f : Nat → Bool} {T U : Nat → Int} {N : Nat} (h : Tab f T N) (hN : 0 < N) (e : ∀ k, k < N → U k = T k) (hm : IsMin f T N (U N)) : Tab f U (N + 1) := by
  refine ⟨by rw [e 0 hN]; exact h.1, fun s h0 hs => ?_⟩
  by_cases hsN : s = N
  · subst hsN
    exact isMin_congr hm e
  · have := h.2 s h0 (by omega)
    rw [e s (by omega)]
    exact isMin_congr this (fun k hk => e k (by omega))
/-- every single one fits -/
def Ones (f : Nat → Bool) (n : Nat) : Prop := ∀ i, i < n → f (2 ^ i) = true
theorem tab_bd {f : Nat → Bool} {T : Nat → Int} {N n : Nat} (h : Tab f T N) (ho : Ones f n) (hn : n ≤ 7) (hN : N ≤ 2 ^ n) (s : Nat) (hs : s < N) : 0 ≤ T s ∧ T s ≤ pc s := by
  have h7 := (pow_le7 n (by omega)).1
  induction s using Nat.strongRecOn with
  | _ s ih =>
    by_cases h0 : 0 < s
    · obtain ⟨⟨o, a, b, c, d, e⟩, m⟩ := h.2 s h0 hs
      have r := ih (s - o) (by omega) (by omega)
      obtain ⟨i, hi, hb⟩ := some_bit n (by omega) s (by omega) h0
      have hp := pow_pos2 i (by omega)
      have hsd := sub_diff s (by omega) (2 ^ i) (by have := (sub_diff s (by omega)); have := hp.2; by_cases q : 2 ^ i < 128
                                                    · exact q
                                                    · exfalso; have : i < 7 := by omega
                                                      have hh : ∀ i : Nat, i < 7 → 2 ^ i < 128 := by decide
                                                      exact q (hh i this)) hb
      have r2 := ih (s - 2 ^ i) (by omega) (by omega)
      have m2 := m (2 ^ i) hp.1 hsd.1 hb (ho i hi)
      have p := pc_sub s (by omega) i (by omega) hb
      omega
    · obtain rfl : s = 0 := by omega
      rw [h.1]; simp [pc]
theorem tab_le {f : Nat → Bool} {T : Nat → Int} {N n : Nat} (h : Tab f T N) (ho : Ones f n) (hn : n ≤ 7) (hN : N ≤ 2 ^ n) (s : Nat) (hs : s < N) : 0 ≤ T s ∧ T s ≤ n := by
  have := tab_bd h ho hn hN s hs
  have := pc_le n (by omega) s (by omega)
  omega
/-- v after the parts above c: d where none fits, else the least -/
def Best (d : Int) (f : Nat → Bool) (T : Nat → Int) (s c : Nat) (v : Int) : Prop :=
  (v = d ∧ ∀ o, c < o → o ≤ s → sub o s = true → f o = false) ∨
  ((∃ o, c < o ∧ o ≤ s ∧ sub o s = true ∧ f o = true ∧ v = 1 + T (s - o)) ∧ ∀ o, c < o → o ≤ s → sub o s = true → f o = true → v ≤ 1 + T (s - o))
theorem best_top (d : Int) (f : Nat → Bool) (T : Nat → Int) (s : Nat) : Best d f T s s d := .inl ⟨rfl, fun o h1 h2 => by omega⟩
def Gap (s c c' : Nat) : Prop := ∀ o, c' < o → o < c → sub o s = false
theorem gap_one (s c : Nat) : Gap s (c + 1) c := fun o h1 h2 => by omega
theorem best_skip {d : Int} {f : Nat → Bool} {T : Nat → Int} {s c c' : Nat} {v : Int} (h : Best d f T s c v) (hg : Gap s c c') (hc : c' < c) (hf : sub c s = true → f c = false) : Best d f T s c' v := by
  have key : ∀ o, c' < o → sub o s = true → f o = true → c < o := fun o h1 h2 h3 => by
    apply Nat.lt_of_not_le
    intro hle
    by_cases e : o = c
    · subst e; rw [hf h2] at h3; cases h3
    · rw [hg o h1 (by omega)] at h2; cases h2
  rcases h with ⟨rfl, h⟩ | ⟨⟨o, a, b, q, r, e⟩, m⟩
  · refine .inl ⟨rfl, fun o h1 h2 h3 => ?_⟩
    cases hh : f o
    · rfl
    · rw [← hh]; exact h o (key o h1 h3 hh) h2 h3
  · exact .inr ⟨⟨o, by omega, b, q, r, e⟩, fun o h1 h2 h3 h4 => m o (key o h1 h3 h4) h2 h3 h4⟩
theorem best_take {d : Int} {f : Nat → Bool} {T : Nat → Int} {s c c' : Nat} {v : Int} (h : Best d f T s c v) (hg : Gap s c c') (hc : c' < c) (hcs : c ≤ s) (hs : sub c s = true) (hf : f c = true)
    (hv : (∀ o, c < o → o ≤ s → sub o s = true → f o = false) ∨ 1 + T (s - c) ≤ v) : Best d f T s c' (1 + T (s - c)) := by
  refine .inr ⟨⟨c, hc, hcs, hs, hf, rfl⟩, fun o h1 h2 h3 h4 => ?_⟩
  by_cases e : o = c
  · subst e; exact Int.le_refl _
  · have hco : c < o := by
      apply Nat.lt_of_not_le
      intro hle
      rw [hg o h1 (by omega)] at h3; cases h3
    rcases h with ⟨rfl, h⟩ | ⟨_, m⟩
    · rw [h o hco h2 h3] at h4; cases h4
    · rcases hv with hv | hv
      · rw [hv o hco h2 h3] at h4; cases h4
      · exact Int.le_trans hv (m o hco h2 h3 h4)
theorem best_keep {d : Int} {f : Nat → Bool} {T : Nat → Int} {s c c' : Nat} {v : Int} (h : Best d f T s c v) (hg : Gap s c c') (hc : c' < c) (hv : v ≤ 1 + T (s - c)) (hd : v ≠ d) : Best d f T s c' v := by
  rcases h with ⟨rfl, h⟩ | ⟨⟨o, a, b, q, r, e⟩, m⟩
  · exact absurd rfl hd
  · refine .inr ⟨⟨o, by omega, b, q, r, e⟩, fun o h1 h2 h3 h4 => ?_⟩
    by_cases e : o = c
    · subst e; exact hv
    · have hco : c < o := by
        apply Nat.lt_of_not_le
        intro hle
        rw [hg o h1 (by omega)] at h3; cases h3
      exact m o hco h2 h3 h4
theorem best_end {d : Int} {f : Nat → Bool} {T : Nat → Int} {s n : Nat} {v : Int} (h : Best d f T s 0 v) (ho : Ones f n) (hn : n ≤ 7) (hs : s < 2 ^ n) (h0 : 0 < s) : IsMin f T s v := by
  have h7 := (pow_le7 n (by omega)).1
  rcases h with ⟨rfl, h⟩ | ⟨⟨o, a, b, q, r, e⟩, m⟩
  · obtain ⟨i, hi, hb⟩ := some_bit n (by omega) s hs h0
    have hh : ∀ i : Nat, i < 7 → 2 ^ i < 128 := by decide
    have hp := pow_pos2 i (by omega)
    have hsd := sub_diff s (by omega) (2 ^ i) (hh i (by omega)) hb
    have := h (2 ^ i) hp.1 hsd.1 hb
    rw [ho i hi] at this; cases this
  · exact ⟨⟨o, a, b, q, r, e⟩, m⟩
open Classical in
noncomputable def few (f : Nat → Bool) (N : Nat) : Int := if h : ∃ T, Tab f T N then (Classical.choose h) (N - 1) else 0
theorem few_eq {f : Nat → Bool} {T : Nat → Int} {N : Nat} (h : Tab f T N) (hN : 0 < N) : T (N - 1) = few f N := by
  have hh : ∃ T, Tab f T N := ⟨T, h⟩
  unfold few
  rw [dif_pos hh]
  exact tab_same h (Classical.choose_spec hh) _ (by omega)
/-- the set's sum is at most bar -/
def ft (zs : List Int) (n : Nat) (bar : Int) (s : Nat) : Bool := decide (bsS zs s n ≤ bar)
theorem one_sum {zs : List Int} {n i : Nat} (hn : n ≤ 7) (hi : i < n) : bsS zs (2 ^ i) n = el zs i := by
  have : ∀ k, k ≤ n → bsS zs (2 ^ i) k = if i < k then el zs i else 0 := fun k hk => by
    induction k with
    | zero => rw [bsS_zero]; simp
    | succ k ih =>
      have e := ih (by omega)
      have hb := one_bt i (by omega) k (by omega)
      by_cases hik : i = k
      · subst hik
        rw [decide_eq_true rfl] at hb
        rw [bsS_yes hb, e, if_neg (Nat.lt_irrefl _), if_pos (by omega)]; simp
      · rw [decide_eq_false hik] at hb
        rw [bsS_no hb, e]
        by_cases h : i < k
        · rw [if_pos h, if_pos (by omega)]
        · rw [if_neg h, if_neg (by omega)]
  rw [this n (Nat.le_refl _), if_pos hi]
theorem ft_ones {zs : List Int} {n : Nat} {bar : Int} (hn : n ≤ 7) (h : okBar zs bar n) : Ones (ft zs n bar) n := fun i hi => by
  unfold ft
  rw [one_sum hn hi]
  exact decide_eq_true (h i hi).2
/-- what both sides answer -/
@[irreducible] noncomputable def fewR (zs : List Int) (bar : Int) : Int := if vBar zs bar 7 = true then few (ft zs zs.length bar) (2 ^ zs.length) else -1
theorem fewR_no {zs : List Int} {bar : Int} (h : vBar zs bar 7 = false) : fewR zs bar = -1 := by unfold fewR; rw [h]; simp
theorem fewR_yes {zs : List Int} {bar : Int} {n : Nat} {T : Nat → Int} (hn : zs.length = n) (h : vBar zs bar 7 = true) (ht : Tab (ft zs n bar) T (2 ^ n)) : fewR zs bar = T (2 ^ n - 1) := by
  unfold fewR
  rw [if_pos h, hn]
  exact (few_eq ht (by exact Nat.pos_of_ne_zero (by simp))).symm
end Go.Proofs.Ytimfabpigpcjhaa
