/- TakeStacks, plain law: each number of a turn is there; how many panes come; no statement is proved here. -/
import Derived.Test.YtglglgfiifjejaaPlRack
namespace Go.Proofs.Ytglglgfiifjejaa
set_option linter.unusedVariables false

theorem pigeon : ∀ (n : Nat) (L : List Int), L.Nodup → (∀ x, x ∈ L → 0 ≤ x ∧ x < n) → L.length ≤ n
  | 0, L, _, h => by
    cases L with
    | nil => simp
    | cons x xs => have := h x (by simp); omega
  | n + 1, L, hd, h => by
    by_cases hm : (n : Int) ∈ L
    · have hle : ((L.erase (n : Int)).length) ≤ n := pigeon n _ (hd.erase _) (fun x hx => by
        have h1 := (List.Nodup.mem_erase_iff hd).1 hx
        have := h x h1.2
        have hne := h1.1
        omega)
      rw [List.length_erase_of_mem hm] at hle
      omega
    · have : L.length ≤ n := pigeon n L hd (fun x hx => by
        have h1 := h x hx
        have : x ≠ n := fun e => hm (e ▸ hx)
        omega)
      omega
theorem okT_nodup {zs : List Int} (h : okT zs zs.length) : zs.Nodup := by
  rw [List.nodup_iff_pairwise_ne, List.pairwise_iff_getElem]
  intro i j hi hj hij
  rw [← el_get hi, ← el_get hj]
  exact (h j hj).2.2 i hij
/-- each number of a turn is there, at one place -/
theorem okT_at {zs : List Int} (h : okT zs zs.length) {p : Nat} (hp : p < zs.length) : ∃ k : Nat, k < zs.length ∧ placeI zs p = k ∧ el zs k = p := by
  rcases placeI_cases zs p with ⟨_, hno⟩ | ⟨k, hk, h1, h2, _⟩
  · exfalso
    have hmem : (p : Int) ∉ zs := fun hm => by
      obtain ⟨i, hi, e⟩ := mem_el hm
      exact hno i hi e
    have hle := pigeon zs.length ((p : Int) :: zs) (List.nodup_cons.2 ⟨hmem, okT_nodup h⟩) (fun x hx => by
      rcases List.mem_cons.1 hx with rfl | hx
      · omega
      · obtain ⟨i, hi, e⟩ := mem_el hx
        have := h i hi
        omega)
    rw [List.length_cons] at hle
    omega
  · exact ⟨k, hk, h1, h2⟩
theorem okT_inj {zs : List Int} (h : okT zs zs.length) {i j : Nat} (hi : i < zs.length) (hj : j < zs.length) (e : el zs i = el zs j) : i = j := by
  rcases Nat.lt_trichotomy i j with hl | hl | hl
  · exact absurd e ((h j hj).2.2 i hl)
  · exact hl
  · exact absurd e.symm ((h i hi).2.2 j hl)
/-- no pane that is delivered later lies on the pane with the number p -/
def free (xs ss : List Int) (p : Nat) : Prop := ∀ k : Nat, placeI xs p = k → ∀ j, k < j → j < xs.length → ¬ (el ss j = el ss k ∧ (p : Int) < el xs j)
def frees (xs ss : List Int) (m : Nat) : Prop := ∀ p, p < m → free xs ss p
theorem frees_zero (xs ss : List Int) : frees xs ss 0 := fun p hp => by omega
theorem frees_succ {xs ss : List Int} {m : Nat} (h : frees xs ss m) (h1 : free xs ss m) : frees xs ss (m + 1) := fun p hp => by
  by_cases e : p = m
  · exact e ▸ h1
  · exact h p (by omega)
open Classical in
@[irreducible] noncomputable def takeN (xs ss : List Int) : Nat := if h : ∃ p, p < xs.length ∧ frees xs ss p ∧ ¬ free xs ss p then h.choose else xs.length
theorem takeN_at {xs ss : List Int} {p : Nat} (hp : p < xs.length) (h : frees xs ss p) (hn : ¬ free xs ss p) : takeN xs ss = p := by
  have hex : ∃ p, p < xs.length ∧ frees xs ss p ∧ ¬ free xs ss p := ⟨p, hp, h, hn⟩
  unfold takeN
  rw [dif_pos hex]
  obtain ⟨h1, h2, h3⟩ := hex.choose_spec
  rcases Nat.lt_trichotomy hex.choose p with hl | hl | hl
  · exact absurd (h _ hl) h3
  · exact hl
  · exact absurd (h2 _ hl) hn
theorem takeN_all {xs ss : List Int} (h : frees xs ss xs.length) : takeN xs ss = xs.length := by
  unfold takeN
  rw [dif_neg (fun ⟨p, hp, _, hn⟩ => hn (h p hp))]
theorem takeN_le (xs ss : List Int) : takeN xs ss ≤ xs.length := by
  by_cases hex : ∃ p, p < xs.length ∧ frees xs ss p ∧ ¬ free xs ss p
  · obtain ⟨p, hp, h, hn⟩ := hex
    rw [takeN_at hp h hn]; omega
  · unfold takeN; rw [dif_neg hex]; omega
/-- the last pane at all on the stack s, of those that are not delivered before p -/
@[irreducible] def topI (xs ss : List Int) (s p : Int) : Nat → Int
  | 0 => -1
  | n + 1 => if el ss n = s ∧ p ≤ el xs n then n else topI xs ss s p n
theorem topI_zero (xs ss : List Int) (s p : Int) : topI xs ss s p 0 = -1 := by unfold topI; rfl
theorem topI_yes {xs ss : List Int} {s p : Int} {n : Nat} (h : el ss n = s ∧ p ≤ el xs n) : topI xs ss s p (n + 1) = n := by unfold topI; rw [if_pos h]
theorem topI_no {xs ss : List Int} {s p : Int} {n : Nat} (h : ¬ (el ss n = s ∧ p ≤ el xs n)) : topI xs ss s p (n + 1) = topI xs ss s p n := by
  conv => lhs; unfold topI
  rw [if_neg h]
theorem topI_is {xs ss : List Int} {s p : Int} {k : Nat} (hk : el ss k = s ∧ p ≤ el xs k) (n : Nat) (hn : k < n) : (topI xs ss s p n = k ∧ ∀ j, k < j → j < n → ¬ (el ss j = s ∧ p ≤ el xs j)) ∨ ∃ j : Nat, k < j ∧ j < n ∧ (el ss j = s ∧ p ≤ el xs j) ∧ topI xs ss s p n = j := by
  induction n with
  | zero => omega
  | succ n ih =>
    by_cases hh : el ss n = s ∧ p ≤ el xs n
    · rw [topI_yes hh]
      by_cases e : k = n
      · exact .inl ⟨by rw [e], fun j h1 h2 => by omega⟩
      · exact .inr ⟨n, by omega, by omega, hh, rfl⟩
    · rw [topI_no hh]
      have hne : k ≠ n := fun e => hh (e ▸ hk)
      rcases ih (by omega) with ⟨h1, h2⟩ | ⟨j, h1, h2, h3, h4⟩
      · refine .inl ⟨h1, fun j hj1 hj2 => ?_⟩
        by_cases e : j = n
        · exact e ▸ hh
        · exact h2 j hj1 (by omega)
      · exact .inr ⟨j, h1, by omega, h3, h4⟩
/-- the pane with the number p is on top, or a later one lies on it -/
theorem top_free {xs ss : List Int} (h : okT xs xs.length) {p k : Nat} (hp : p < xs.length) (hk : k < xs.length) (e : placeI xs p = k) (ek : el xs k = p) :
    (topI xs ss (el ss k) p xs.length = k ∧ free xs ss p) ∨ (topI xs ss (el ss k) p xs.length ≠ k ∧ ¬ free xs ss p) := by
  rcases topI_is (s := el ss k) (p := p) (xs := xs) (ss := ss) (k := k) ⟨rfl, by omega⟩ xs.length hk with ⟨h1, h2⟩ | ⟨j, h1, h2, h3, h4⟩
  · refine .inl ⟨h1, fun k' hk' j hj1 hj2 => ?_⟩
    obtain rfl : k = k' := by rw [e] at hk'; omega
    intro hh
    exact h2 j hj1 hj2 ⟨hh.1, by omega⟩
  · refine .inr ⟨by omega, fun hf => hf k e j h1 h2 ⟨h3.1, ?_⟩⟩
    have : el xs j ≠ p := fun e2 => by
      have := okT_inj h h2 hk (e2.trans ek.symm)
      omega
    omega
theorem upFrom_succ0 (p : Nat) : upFrom 0 p ++ [(p : Int)] = upFrom 0 (p + 1) := by simp [upFrom, List.range_succ]
end Go.Proofs.Ytglglgfiifjejaa
