/- LongestRise (its length) and StacksFor of impl, and the walk of the law FnExactStacksFor; no statement is proved here. -/
import Derived.Test.YtglglgfiifjejaaRise
namespace Go.Proofs.Ytglglgfiifjejaa
open Go.ChangeShapes Go.WideShapes Go.ChangeAt Go.RowKit
set_option linter.unusedVariables false
set_option linter.unusedSimpArgs false

theorem mxT_start {xs : List Int} {n : Nat} (hn : 1 ≤ n) (h : 0 ≤ el xs 0) : mxT xs (el xs 0) 0 n = mxT xs 0 0 n := by
  induction n with
  | zero => omega
  | succ n ih =>
    by_cases e : n = 0
    · subst e; rw [mxT_succ, mxT_succ, mxT_zero, mxT_zero]; omega
    · rw [mxT_succ, mxT_succ, ih (by omega)]
theorem stk_len {zs : List Int} {n : Nat} (ht : okT zs zs.length) (hn : zs.length = n) (h1 : 1 ≤ n) :
    ∃ L : Nat, mxT (rsA zs n) (el (rsA zs n) 0) 0 n = L ∧ mxT (greedy zs n).2 0 1 n = L ∧ 1 ≤ L ∧ L ≤ n := by
  subst hn
  have hb : ∀ j, j < zs.length → 1 ≤ el (rsA zs zs.length) j ∧ el (rsA zs zs.length) j ≤ zs.length := fun j hj => rsA_bd ht (Nat.le_refl _) hj
  have h0 := hb 0 (by omega)
  have e1 := mxT_start (xs := rsA zs zs.length) h1 (by omega)
  have e2 : mxT (greedy zs zs.length).2 0 1 zs.length = mxT (rsA zs zs.length) 0 0 zs.length := by
    unfold mxT rsA; exact stacks_eq ht
  have hbd := mxT_bd (xs := rsA zs zs.length) (c := el (rsA zs zs.length) 0) (d := 0) (lo := 1) (hi := zs.length) (n := zs.length) h0 (fun j hj => by have := hb j hj; omega)
  exact ⟨(mxT (rsA zs zs.length) (el (rsA zs zs.length) 0) 0 zs.length).toNat, by omega, by omega, by omega, by omega⟩
/-- a call returns a slice of the length L -/
def FrLen (L : Nat) (w : World) : Ending → World → Prop := fun e w' => ∃ p c, e = .returned (.slice p L c) ∧ Below w.heap.size w w'
set_option maxHeartbeats 1000000 in
theorem impl_LongestRise_s {b off n cap L : Nat} {zs : List Int} {w : World} (h : Sl w b off n cap zs) (hv : vTurn zs = true) (hn1 : 1 ≤ n) (hL : mxT (rsA zs n) (el (rsA zs n) 0) 0 n = L) (hL2 : L ≤ n) :
    Calls Try.prog 97 #[.slice (some ⟨b, off, none⟩) n cap] w (FrLen L w) := by
  obtain ⟨i0, hi, hz0, hz1, hz2⟩ := info_parts Try.infoInt
  have hs := h.small
  have HT := mkhid (vTurn_iff.1 hv).2
  have hmx : ∀ (w' : World) (b' off' cap' : Nat), Sl w' b' off' n cap' (rsA zs n) → Calls Try.prog 105 #[.slice (some ⟨b', off', none⟩) n cap'] w' (Rs (.int .i64 ((L : Int))) w') := fun w' b' off' cap' hh => hL ▸ sMax_s hh hn1
  have hvt : ∀ w' : World, Calls Try.prog 22 #[.slice (some ⟨b, off, none⟩) n cap] w (Rt (.bool true) w) := fun _ => hv ▸ impl_ValidTurn_s h
  have i0' : ((n : Int) == 0) = false := by simp; omega
  have HR := mkhid (rsA_length zs n)
  clear hL hv
  go_enter Try.func97, Try.ntmps97
  go_wp2_with (first | (go_at_call 22; refine (hvt w).mono ?_; rintro e w1 ⟨rfl, hb1⟩) | (go_at_call 104; refine (risesOf_s (h.below hb1) HT.out).mono ?_; rintro e w2 ⟨g, c, rfl, ho, hb2⟩; have hS := ho.sl (by rw [HR.out]; exact hs) ho.capm; have hb3 := hb1.trans (hb2.mono hb1.size)) | (go_at_call 105; refine (hmx _ _ _ _ hS).mono ?_; rintro e _ ⟨rfl, rfl⟩) | (refine wpList_make_full _ rfl _ _ 22 rfl w2.heap.size 3 i0 (.int .i64 0) 1 Try.underlying22 hi hz0 hz1 .i64 .i64 _ _ L rfl rfl rfl rfl (by rw [hz2]; omega) (by unfold maxLen; omega) (Nat.le_refl _) ?_; intro w3 hown3 hgrow3))
  have ho3 : Own w3 w2.heap.size 3 (.slice (some ⟨w2.heap.size, 0, none⟩) L L) (List.replicate L 0) := by
    have e : (madeCells (Value.int IntKind.i64 0).cells (L * 1)).toList = (List.replicate L 0).map (Value.int .i64) := by
      rw [show (Value.int IntKind.i64 0).cells = #[Value.int IntKind.i64 0] from rfl, toList_madeCells_one]; simp
    unfold Own
    rw [← e, List.length_replicate]; exact hown3
  have hb4 : Below w2.heap.size w2 w3 := (Below.refl _ _).grown hgrow3 (Nat.le_refl _) (fun k hk => by cases hk)
  clear hown3 hgrow3 ho hb2 hmx hvt hb1
  have h2 := h.below hb3
  go_loopw [4, 6, 7, 8, 31] (fun l m _ _ _ wr => ∃ (x : Nat) (lim : Int) (ys : List Int), x ≤ L ∧ l = .int .i64 x ∧ m = .int .i64 lim ∧ Own wr w2.heap.size 3 (.slice (some ⟨w2.heap.size, 0, none⟩) L L) ys ∧ Below w2.heap.size w2 wr) (fun l _ _ _ _ _ => (intOf l).toNat)
  case atStart => exact ⟨L, _, _, Nat.le_refl _, rfl, rfl, ho3, hb4⟩
  case round =>
    obtain ⟨x, lim, ys, hx, rfl, rfl, hoy, hbr⟩ := hrel
    clear ho3 hb4
    by_cases hx0 : 0 < x
    · go_wp2_with fail
      obtain ⟨wo, hwo⟩ : ∃ wo : World, Hid (wo = wr) := ⟨_, rfl⟩
      rw [← hwo.out] at hoy hbr
      go_loopw [6, 7, 8, 31] (fun m _ _ i wr => ∃ k : Nat, k ≤ n ∧ i = .int .i64 k ∧ m = .int .i64 lim ∧ Drew wo wr) (fun _ _ _ i _ => n - (intOf i).toNat)
      case atStart => exact ⟨0, Nat.zero_le _, rfl, rfl, hwo.out ▸ Drew.refl _⟩
      case round =>
        obtain ⟨k, hk, rfl, rfl, hd⟩ := hrel
        have hb5 := hbr.trans (hd.below.mono hbr.size)
        have oy := hoy.below hd.below
        by_cases hlt : k < n
        · have c1 := (h2.below hb5).cell hlt
          have c2 := (hS.below hb5).cell hlt
          rw [Nat.zero_add] at c2
          have i1 : (0 : Int) ≤ (k : Int) := by omega
          have i2 : (k : Int) < (n : Int) := by omega
          have e1 : ((x : Int) - 1).toNat = x - 1 := by omega
          have e2 : (0 : Int) ≤ (x : Int) - 1 := by omega
          have e3 : (x : Int) - 1 < (L : Int) := by omega
          have f1 := (own_facts oy (x - 1)).1 (by omega)
          have f2 := (own_facts oy (x - 1)).2
          have P1 := own_set oy (x - 1) k
          have B1 := hb5.setCell (p := ⟨w2.heap.size, x - 1, none⟩) (Nat.le_refl _) (.int .i64 k)
          by_cases he : el (rsA zs n) k = (x : Int)
          · have he' : (el (rsA zs n) k == (x : Int)) = true := by simpa using he
            by_cases hl : el zs k < lim
            · have hl' : decide (el zs k < lim) = true := decide_eq_true hl
              clear he
              go_wp2
              go_roundw
              case rel => exact ⟨x - 1, _, _, by omega, by go_num, rfl, P1, B1⟩
              case measure => simp [intOf]; omega
            · have hl' : decide (el zs k < lim) = false := decide_eq_false hl
              clear he
              go_wp2
              go_roundw
              case rel => exact ⟨k + 1, by omega, by go_num, rfl, hd⟩
              case measure => simp [intOf]; omega
          · have he' : (el (rsA zs n) k == (x : Int)) = false := by simpa using he
            go_wp2
            go_roundw
            case rel => exact ⟨k + 1, by omega, by go_num, rfl, hd⟩
            case measure => simp [intOf]; omega
        · go_wp2
          go_roundw
          case rel => exact ⟨x - 1, _, _, by omega, by go_num, rfl, oy, hb5⟩
          case measure => simp [intOf]; omega
    · go_wp2
      go_ret
      exact ⟨_, _, rfl, hb3.trans (hbr.mono hb3.size)⟩
theorem impl_StacksFor_s {b off n cap : Nat} {zs : List Int} {w : World} (h : Sl w b off n cap zs) :
    Calls Try.prog 56 #[.slice (some ⟨b, off, none⟩) n cap] w (Rt (.int .i64 (stkI zs)) w) := by
  have hs := h.small
  cases hv : vTurn zs
  · have e : Hid (stkI zs = -1) := by show _ = _; unfold stkI; rw [hv]; rfl
    go_enter Try.func56, Try.ntmps56
    go_wp2_with (go_at_call 22; refine (impl_ValidTurn_s h).mono ?_; rintro e w1 ⟨rfl, hb1⟩)
    go_ret
    exact ⟨ret_int e.out.symm, hb1⟩
  · have hlr : ∃ L : Nat, stkI zs = L ∧ ∀ w' : World, Below w.heap.size w w' → Calls Try.prog 97 #[.slice (some ⟨b, off, none⟩) n cap] w' (FrLen L w') := by
      by_cases h0 : 1 ≤ n
      · obtain ⟨L, e1, e2, e3, e4⟩ := stk_len (vTurn_iff.1 hv).2 h.len h0
        exact ⟨L, by unfold stkI; rw [hv, if_pos rfl, h.len]; exact e2, fun w' hb => impl_LongestRise_s (h.below hb) hv h0 e1 e4⟩
      · obtain rfl : n = 0 := by omega
        refine ⟨0, by unfold stkI; rw [hv, if_pos rfl, h.len, mxT_zero]; rfl, fun w' hb => ?_⟩
        have hvt := impl_ValidTurn_s (h.below hb)
        rw [hv] at hvt
        clear hv
        go_enter Try.func97, Try.ntmps97
        go_wp2_with (go_at_call 22; refine hvt.mono ?_; rintro e w1 ⟨rfl, hb1⟩)
        go_ret
        exact ⟨_, _, rfl, hb1⟩
    obtain ⟨L, e, hlr⟩ := hlr
    have HE := mkhid e
    have hvt := impl_ValidTurn_s h
    rw [hv] at hvt
    clear e hv
    go_enter Try.func56, Try.ntmps56
    go_wp2_with (first | (go_at_call 22; refine hvt.mono ?_; rintro e w1 ⟨rfl, hb1⟩) | (go_at_call 97; refine (hlr _ hb1).mono ?_; rintro e w2 ⟨p, c, rfl, hb2⟩))
    go_ret
    exact ⟨ret_int HE.out.symm, hb1.trans (hb2.mono hb1.size)⟩

theorem FnExactStacksFor_walk (v0 : Value) (zs0 : List Int) (w : World) (hv0 : ISl w v0 zs0) : Calls Try.prog 17 #[v0] w (Rt (.bool true) w) := by
  have hv0' := hv0
  obtain ⟨p0, cap0, rfl, _⟩ := hv0'
  by_cases hl0 : zs0.length ≤ 1048576
  · have ml0 : zs0.length ≤ maxLen := by unfold maxLen; omega
    go_enter Try.func17, Try.ntmps17
    go_wp2_with fail
    have hB0 : Below w.heap.size w w := Below.refl _ _
    refine (toIntS_c _ zs0 _ (hv0.below hB0) hl0).mono ?_
    rintro e w1 ⟨g1, rfl, ho1, hb1⟩
    have hB1 := hB0.trans (hb1.mono hB0.size)
    have s0 := ho1.sl hl0 ml0
    clear ho1
    clear hB0 hb1
    go_wp2_with fail
    refine (spec_StacksFor_s s0).mono ?_
    rintro e w2 ⟨rfl, hb2⟩
    have hB2 := hB1.trans (hb2.mono hB1.size)
    replace s0 := s0.below hb2
    clear hB1 hb2
    go_wp2_with fail
    clear s0
    refine (toIntS_c _ zs0 _ (hv0.below hB2) hl0).mono ?_
    rintro e w3 ⟨g3, rfl, ho3, hb3⟩
    have hB3 := hB2.trans (hb3.mono hB2.size)
    have s0 := ho3.sl hl0 ml0
    clear ho3
    clear hB2 hb3
    go_wp2_with fail
    refine (impl_StacksFor_s s0).mono ?_
    rintro e w4 ⟨rfl, hb4⟩
    have hB4 := hB3.trans (hb4.mono hB3.size)
    replace s0 := s0.below hb4
    clear hB3 hb4
    go_wp2_with fail
    refine (toIntS_c _ zs0 _ (hv0.below hB4) hl0).mono ?_
    rintro e w5 ⟨g5, rfl, ho5, hb5⟩
    have hB5 := hB4.trans (hb5.mono hB4.size)
    replace s0 := s0.below hb5
    have t0 := ho5.sl hl0 ml0
    clear ho5
    clear hB4 hb5
    go_wp2_with fail
    refine (rd_rt (eqIntS_c _ _ zs0 zs0 _ s0.isl t0.isl hl0 hl0)).mono ?_
    rintro e w6 ⟨rfl, hb6⟩
    have hB6 := hB5.trans (hb6.mono hB5.size)
    replace s0 := s0.below hb6
    replace t0 := t0.below hb6
    clear hB5 hb6
    go_wp2
    go_ret
    exact ⟨rfl, hB6⟩
  · have hl0' : (1048576 : Int) < (zs0.length : Int) := by omega
    go_enter Try.func17, Try.ntmps17
    go_wp2
    all_goals (go_ret; exact ⟨rfl, Below.refl _ _⟩)
end Go.Proofs.Ytglglgfiifjejaa
