/- StacksFor and PutStacks of spec; risesOf, slices.Max of impl; no statement is proved here. -/
import Derived.Test.YtglglgfiifjejaaPuts
namespace Go.Proofs.Ytglglgfiifjejaa
open Go.ChangeShapes Go.WideShapes Go.ChangeAt Go.RowKit
set_option linter.unusedVariables false
set_option linter.unusedSimpArgs false

@[irreducible] def mxT (xs : List Int) (c d : Int) (n : Nat) : Int := maxTo xs c d n
theorem mxT_zero (xs : List Int) (c d : Int) : mxT xs c d 0 = c := by unfold mxT; rfl
theorem mxT_succ (xs : List Int) (c d : Int) (n : Nat) : mxT xs c d (n + 1) = max (mxT xs c d n) (el xs n + d) := by unfold mxT; rfl
theorem mxT_if (xs : List Int) (c d : Int) (n : Nat) : mxT xs c d (n + 1) = if mxT xs c d n < el xs n + d then el xs n + d else mxT xs c d n := by rw [mxT_succ]; split <;> omega
theorem mxT_bd {xs : List Int} {c d lo hi : Int} {n : Nat} (hc : lo ≤ c ∧ c ≤ hi) (h : ∀ j, j < n → lo ≤ el xs j + d ∧ el xs j + d ≤ hi) : lo ≤ mxT xs c d n ∧ mxT xs c d n ≤ hi := by
  induction n with
  | zero => rw [mxT_zero]; exact hc
  | succ n ih => rw [mxT_succ]; have := ih (fun j hj => h j (by omega)); have := h n (by omega); omega
theorem greedy_bd {zs : List Int} {k j : Nat} (h : okT zs zs.length) (hk : k ≤ zs.length) (hj : j < k) : 0 ≤ el (greedy zs k).2 j ∧ el (greedy zs k).2 j < k := by
  have g := greedy_good h hk
  obtain ⟨p, hp, e, _⟩ := g.le j hj
  have := g.short
  omega
theorem spec_stacksFor_s {b off n cap : Nat} {zs : List Int} {w : World} (h : Sl w b off n cap zs) (hbd : ∀ j, j < n → 0 ≤ el zs j ∧ el zs j ≤ 1048576) :
    Calls Try.prog 96 #[.slice (some ⟨b, off, none⟩) n cap] w (Rs (.int .i64 (mxT zs 0 1 n)) w) := by
  have hs := h.small
  have HB := mkhid hbd
  clear hbd
  go_enter Try.func96, Try.ntmps96
  go_wp2_with fail
  go_loop [3, 4] (fun c i => ∃ k : Nat, k ≤ n ∧ i = .int .i64 k ∧ c = .int .i64 (mxT zs 0 1 k)) (fun _ i => n - (intOf i).toNat)
  case atStart => exact ⟨0, Nat.zero_le _, rfl, by rw [mxT_zero]⟩
  case round =>
    obtain ⟨k, hk, rfl, rfl⟩ := hrel
    by_cases hlt : k < n
    · have hcell := h.cell hlt
      have hb := HB.out k hlt
      have hsucc := mkhid (mxT_if zs 0 1 k)
      have hm := mxT_bd (xs := zs) (c := 0) (d := 1) (lo := 0) (hi := 1048577) (n := k) (by omega) (fun j hj => by have := HB.out j (by omega); omega)
      go_wp2
      go_round
      case rel => exact ⟨k + 1, by omega, by go_num, by rw [hsucc.out]⟩
      case measure => simp [intOf]; omega
    · obtain rfl : k = n := by omega
      go_wp2
      go_ret
      exact ⟨rfl, rfl⟩
def putsR (zs : List Int) : List Int := if vTurn zs = true then (greedy zs zs.length).2 else []
theorem putsR_short {zs : List Int} (h : zs.length ≤ 1048576) : (putsR zs).length ≤ 1048576 := by
  unfold putsR; split
  · rw [greedy_length]; exact h
  · simp
@[irreducible] def stkI (zs : List Int) : Int := if vTurn zs = true then mxT (greedy zs zs.length).2 0 1 zs.length else -1
theorem spec_PutStacks_s {b off n cap : Nat} {zs : List Int} {w : World} (h : Sl w b off n cap zs) :
    Calls Try.prog 51 #[.slice (some ⟨b, off, none⟩) n cap] w (FrX 3 (fun v => v) (putsR zs) w) := by
  cases hv : vTurn zs
  · have e : Hid (putsR zs = []) := by show _ = _; unfold putsR; rw [hv]; rfl
    go_enter Try.func51, Try.ntmps51
    go_wp2_with (go_at_call 64; refine (spec_validTurn_s h).mono ?_; rintro e w1 ⟨rfl, hd1⟩)
    go_ret
    exact ⟨_, rfl, e.out ▸ own_nil _ _ _, hd1.below⟩
  · have e : Hid (putsR zs = (greedy zs n).2) := by show _ = _; unfold putsR; rw [hv, if_pos rfl, h.len]
    go_enter Try.func51, Try.ntmps51
    go_wp2_with (first | (go_at_call 64; refine (spec_validTurn_s h).mono ?_; rintro e w1 ⟨rfl, hd1⟩; have hb1 := hd1.below) | (go_at_call 89; refine (spec_putStacks_s (h.drew hd1)).mono ?_; rintro e w2 ⟨g, c, rfl, ho, hb2⟩))
    go_ret
    exact ⟨_, rfl, e.out ▸ ho.le hb1.size, hb1.trans (hb2.mono hb1.size)⟩
theorem spec_StacksFor_s {b off n cap : Nat} {zs : List Int} {w : World} (h : Sl w b off n cap zs) :
    Calls Try.prog 55 #[.slice (some ⟨b, off, none⟩) n cap] w (Rt (.int .i64 (stkI zs)) w) := by
  have hs := h.small
  cases hv : vTurn zs
  · have e : Hid (stkI zs = -1) := by show _ = _; unfold stkI; rw [hv]; rfl
    go_enter Try.func55, Try.ntmps55
    go_wp2_with (go_at_call 64; refine (spec_validTurn_s h).mono ?_; rintro e w1 ⟨rfl, hd1⟩)
    go_ret
    exact ⟨ret_int e.out.symm, hd1.below⟩
  · have e : Hid (stkI zs = mxT (greedy zs n).2 0 1 n) := by show _ = _; unfold stkI; rw [hv, if_pos rfl, h.len]
    have hn := (vTurn_iff.1 hv).1
    have hbd := fun j (hj : j < n) => greedy_bd (k := n) (j := j) (vTurn_iff.1 hv).2 (by rw [h.len]; omega) hj
    have HB := mkhid hbd
    have hgl := greedy_length zs n
    have HGL := mkhid hgl
    clear hbd hn hgl
    go_enter Try.func55, Try.ntmps55
    go_wp2_with (first | (go_at_call 64; refine (spec_validTurn_s h).mono ?_; rintro e w1 ⟨rfl, hd1⟩; have hb1 := hd1.below) | (go_at_call 89; refine (spec_putStacks_s (h.drew hd1)).mono ?_; rintro e w2 ⟨g, c, rfl, ho, hb2⟩; have hS := ho.sl (by rw [HGL.out]; exact hs) ho.capm) | (go_at_call 96; refine (spec_stacksFor_s hS (fun j hj => by have := HB.out j hj; omega)).mono ?_; rintro e _ ⟨rfl, rfl⟩))
    go_ret
    exact ⟨ret_int e.out.symm, hb1.trans (hb2.mono hb1.size)⟩
theorem sMax_s {b off n cap : Nat} {zs : List Int} {w : World} (h : Sl w b off n cap zs) (hn : 1 ≤ n) :
    Calls Try.prog 105 #[.slice (some ⟨b, off, none⟩) n cap] w (Rs (.int .i64 (mxT zs (el zs 0) 0 n)) w) := by
  have hs := h.small
  have c0 := h.cell (k := 0) (by omega)
  have e1 : mxT zs (el zs 0) 0 1 = el zs 0 := by rw [mxT_succ, mxT_zero]; omega
  have E1 := mkhid e1
  have i0 : decide ((n : Int) < 1) = false := decide_eq_false (by omega)
  have i1 : ¬ (n : Int) < 1 := by omega
  have i2 : (0 : Int) < (n : Int) := by omega
  have c0' : w.cell? ⟨b, off, none⟩ = some (.int .i64 (el zs 0)) := c0
  clear e1
  go_enter Try.func105, Try.ntmps105
  go_wp2_with fail
  go_loop [3, 4] (fun c i => ∃ k : Nat, k ≤ n ∧ 1 ≤ k ∧ i = .int .i64 k ∧ c = .int .i64 (mxT zs (el zs 0) 0 k)) (fun _ i => n - (intOf i).toNat)
  case atStart => exact ⟨1, hn, Nat.le_refl _, rfl, by rw [E1.out]⟩
  case round =>
    obtain ⟨k, hk, hk1, rfl, rfl⟩ := hrel
    by_cases hlt : k < n
    · have hcell := h.cell hlt
      have hsucc := mkhid (mxT_if zs (el zs 0) 0 k)
      go_wp2
      go_round
      case rel => exact ⟨k + 1, by omega, by omega, by go_num, by rw [hsucc.out]; simp⟩
      case measure => simp [intOf]; omega
    · obtain rfl : k = n := by omega
      go_wp2
      go_ret
      exact ⟨rfl, rfl⟩
end Go.Proofs.Ytglglgfiifjejaa
