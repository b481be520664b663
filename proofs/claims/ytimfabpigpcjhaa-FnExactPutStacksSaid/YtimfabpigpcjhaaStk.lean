/- StacksFor and PutStacks of spec; risesOf, slices.Max of impl; no statement is proved here. -/
import Derived.Test.YtimfabpigpcjhaaPuts
namespace Go.Proofs.Ytimfabpigpcjhaa
open Go.ChangeShapes Go.WideShapes Go.ChangeAt Go.RowKit
set_option linter.unusedVariables false
set_option linter.unusedSimpArgs false

@[irreducible] def mxT (xs : List Int) (c d : Int) (n : Nat) : Int := maxTo xs c d n
theorem mxT_zero (xs : List Int) (c d : Int) : mxT xs c d 0 = c := by unfold mxT; rfl
theorem mxT_succ (xs : List Int) (c d : Int) (n : Nat) : mxT xs c d (n + 1) = max (mxT xs c d n) (el xs n + d) := by unfold mxT; rfl
theorem mxT_if (xs : List Int) (c d : Int) (n : Nat) : mxT xs c d (n + 1) = if mxT xs c d n < el xs n + d then el xs n + d else mxT xs c d n := by rw [mxT_succ]; split <;> omega
theorem mxT_bd {xs : List Int} {c d lo hi : Int} {n : Nat} (hc : lo ≤ c ∧ c ≤ hi) (h : ∀ j, j < n → lo ≤ el xs j + d ∧ el xs j + d ≤ hi) : lo ≤ mxT xs c d n ∧ mxT xs c d n ≤ hi := by
  induction n with
  | zero => rw [mxT_zero]; exact hc
  | succ n ih => rw [mxT_succ]; have := ih (fun j hj => h j (by omega)); have := h n (by omega); omega
theorem greedy_bd {zs : List Int} {k j : Nat} (h : okT zs zs.length) (hk : k ≤ zs.length) (hj : j < k) : 0 ≤ el (greedy zs k).2 j ∧ el (greedy zs k).2 j < k := by
  have g := greedy_good h hk
  obtain ⟨p, hp, e, _⟩ := g.le j hj
  have := g.short
  omega
def putsR (zs : List Int) : List Int := if vTurn zs = true then (greedy zs zs.length).2 else []
theorem putsR_short {zs : List Int} (h : zs.length ≤ 1048576) : (putsR zs).length ≤ 1048576 := by
  unfold putsR; split
  · rw [greedy_length]; exact h
  · simp
@[irreducible] def stkI (zs : List Int) : Int := if vTurn zs = true then mxT (greedy zs zs.length).2 0 1 zs.length else -1
theorem spec_PutStacks_s {b off n cap : Nat} {zs : List Int} {w : World} (h : Sl w b off n cap zs) :
    Calls Try.prog 24 #[.slice (some ⟨b, off, none⟩) n cap] w (FrX 3 (fun v => v) (putsR zs) w) := by
  cases hv : vTurn zs
  · have e : Hid (putsR zs = []) := by show _ = _; unfold putsR; rw [hv]; rfl
    go_enter Try.func24, Try.ntmps24
    go_wp2_with (go_at_call 53; refine (spec_validTurn_s h).mono ?_; rintro e w1 ⟨rfl, hd1⟩)
    go_ret
    exact ⟨_, rfl, e.out ▸ own_nil _ _ _, hd1.below⟩
  · have e : Hid (putsR zs = (greedy zs n).2) := by show _ = _; unfold putsR; rw [hv, if_pos rfl, h.len]
    go_enter Try.func24, Try.ntmps24
    go_wp2_with (first | (go_at_call 53; refine (spec_validTurn_s h).mono ?_; rintro e w1 ⟨rfl, hd1⟩; have hb1 := hd1.below) | (go_at_call 54; refine (spec_putStacks_s (h.drew hd1)).mono ?_; rintro e w2 ⟨g, c, rfl, ho, hb2⟩))
    go_ret
    exact ⟨_, rfl, e.out ▸ ho.le hb1.size, hb1.trans (hb2.mono hb1.size)⟩
end Go.Proofs.Ytimfabpigpcjhaa
