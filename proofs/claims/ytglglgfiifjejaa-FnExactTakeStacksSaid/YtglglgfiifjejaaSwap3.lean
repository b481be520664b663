/- validStacks of impl, LiftsOf, and the walks of the laws FnExactSwapsFor, FnExactLiftsOf; no statement is proved here. -/
import Derived.Test.YtglglgfiifjejaaSwap2
namespace Go.Proofs.Ytglglgfiifjejaa
open Go.ChangeShapes Go.WideShapes Go.ChangeAt Go.RowKit
set_option linter.unusedVariables false
set_option linter.unusedSimpArgs false
theorem impl_validStacks_s {b off n cap b' off' n' cap' : Nat} {xs ss : List Int} {w : World} (h : Sl w b off n cap xs) (h' : Sl w b' off' n' cap' ss) :
    Calls Try.prog 84 #[.slice (some ⟨b, off, none⟩) n cap, .slice (some ⟨b', off', none⟩) n' cap'] w (Rt (.bool (vStacks xs ss)) w) := by
  have hs := h'.small
  have HN : Hid (xs.length = n) := h.len
  have HM : Hid (ss.length = n') := h'.len
  by_cases hc : vTurn xs = true ∧ n' = n
  · obtain ⟨hvt, hnn⟩ := hc
    have hvb : Hid (vTurn xs = true) := hvt
    have HE : Hid (n' = n) := hnn
    have i0 : ((n' : Int) != (n : Int)) = false := by simp [hnn]
    clear hnn
    go_enter Try.func84, Try.ntmps84
    go_wp2_with (go_at_call 22; refine (impl_ValidTurn_s h).mono ?_; rintro e w1 ⟨rfl, hb1⟩)
    have h2 := h'.below hb1
    go_loop [6, 19] (fun _ i => ∃ k : Nat, k ≤ n' ∧ i = .int .i64 k ∧ okSt ss k) (fun _ i => n' - (intOf i).toNat)
    case atStart => exact ⟨0, Nat.zero_le _, rfl, fun i hi => by omega⟩
    case round =>
      obtain ⟨k, hk, rfl, HB⟩ := hrel
      by_cases hlt : k < n'
      · have hcell := h2.cell hlt
        by_cases h1 : 0 ≤ el ss k ∧ el ss k ≤ 23
        · have hok := okSt_succ HB h1
          obtain ⟨h1a, h1b⟩ := h1
          go_wp2
          go_round
          case rel => exact ⟨k + 1, by omega, by go_num, hok⟩
          case measure => simp [intOf]; omega
        · have hv : Hid (vStacks xs ss = false) := vStacks_no (by rw [HM.out]; exact hlt) h1
          go_wp2
          all_goals first | (exfalso; omega) | (go_ret; exact ⟨ret_bool hv.out.symm, hb1⟩)
      · have hkn : k = n' := by omega
        have hv : Hid (vStacks xs ss = true) := vStacks_iff.2 ⟨hvb.out, by rw [HM.out, HN.out, HE.out], by rw [HM.out, ← hkn]; exact HB⟩
        clear hkn
        go_wp2
        go_ret
        exact ⟨ret_bool hv.out.symm, hb1⟩
  · have hv : Hid (vStacks xs ss = false) := by
      show _ = _
      cases hvs : vStacks xs ss
      · rfl
      · obtain ⟨a1, a2, _⟩ := vStacks_iff.1 hvs
        exact absurd ⟨a1, by rw [HM.out, HN.out] at a2; exact a2⟩ hc
    cases hvt : vTurn xs
    · go_enter Try.func84, Try.ntmps84
      go_wp2_with (go_at_call 22; refine (impl_ValidTurn_s h).mono ?_; rintro e w1 ⟨rfl, hb1⟩)
      go_ret
      exact ⟨ret_bool hv.out.symm, hb1⟩
    · have hnn : n' ≠ n := fun e => hc ⟨hvt, e⟩
      have i0 : ((n' : Int) != (n : Int)) = true := by simp; omega
      go_enter Try.func84, Try.ntmps84
      go_wp2_with (go_at_call 22; refine (impl_ValidTurn_s h).mono ?_; rintro e w1 ⟨rfl, hb1⟩)
      go_ret
      exact ⟨ret_bool hv.out.symm, hb1⟩
theorem spec_LiftsOf_s {b off n cap b' off' n' cap' : Nat} {xs ss : List Int} {w : World} (h : Sl w b off n cap xs) (h' : Sl w b' off' n' cap' ss) :
    Calls Try.prog 43 #[.slice (some ⟨b, off, none⟩) n cap, .slice (some ⟨b', off', none⟩) n' cap'] w (Rd (.int .i64 (liftsI xs ss)) w) := by
  cases hv : vStacks xs ss
  · have HI : Hid (liftsI xs ss = -1) := by show _ = _; unfold liftsI; rw [hv]; rfl
    go_enter Try.func43, Try.ntmps43
    go_wp2_with (go_at_call 83; refine (spec_validStacks_s h h').mono ?_; rintro e w1 ⟨rfl, d1, rfl⟩)
    go_ret
    exact ⟨ret_int HI.out.symm, (by repeat (first | exact Drew.refl _ | assumption | refine Drew.drewN ?_ _ | refine Drew.drew ?_))⟩
  · obtain ⟨a1, a2, a3⟩ := vStacks_iff.1 hv
    have hn24 : n ≤ 24 := by have := (vTurn_iff.1 a1).1; rwa [h.len] at this
    obtain rfl : n' = n := by rw [h.len, h'.len] at a2; exact a2
    have HI : Hid (liftsI xs ss = pairsA (liftF xs ss) n') := by show _ = _; unfold liftsI; rw [hv, if_pos rfl, h.len, pairs_eq]
    go_enter Try.func43, Try.ntmps43
    go_wp2_with (first | (go_at_call 83; refine (spec_validStacks_s h h').mono ?_; rintro e w1 ⟨rfl, hd1⟩) | (go_at_call 81; refine (spec_liftsOf_s (h.drew hd1) (h'.drew hd1) hn24).mono ?_; rintro e w2 ⟨rfl, hd2⟩))
    go_ret
    exact ⟨ret_int HI.out.symm, hd1.trans hd2⟩
theorem impl_LiftsOf_s {b off n cap b' off' n' cap' : Nat} {xs ss : List Int} {w : World} (h : Sl w b off n cap xs) (h' : Sl w b' off' n' cap' ss) :
    Calls Try.prog 44 #[.slice (some ⟨b, off, none⟩) n cap, .slice (some ⟨b', off', none⟩) n' cap'] w (Rt (.int .i64 (liftsI xs ss)) w) := by
  cases hv : vStacks xs ss
  · have HI : Hid (liftsI xs ss = -1) := by show _ = _; unfold liftsI; rw [hv]; rfl
    go_enter Try.func44, Try.ntmps44
    go_wp2_with (go_at_call 84; refine (impl_validStacks_s h h').mono ?_; rintro e w1 ⟨rfl, hb1⟩)
    go_ret
    exact ⟨ret_int HI.out.symm, hb1⟩
  · obtain ⟨a1, a2, a3⟩ := vStacks_iff.1 hv
    have hn24 : n ≤ 24 := by have := (vTurn_iff.1 a1).1; rwa [h.len] at this
    obtain rfl : n' = n := by rw [h.len, h'.len] at a2; exact a2
    have HI : Hid (liftsI xs ss = pairsB (liftF xs ss) n') := by show _ = _; unfold liftsI; rw [hv, if_pos rfl, h.len]
    go_enter Try.func44, Try.ntmps44
    go_wp2_with (go_at_call 84; refine (impl_validStacks_s h h').mono ?_; rintro e w1 ⟨rfl, hb1⟩)
    go_loopw [5, 6, 7, 14, 18] (fun c _ _ i _ wr => ∃ k : Nat, k ≤ n' ∧ i = .int .i64 k ∧ c = .int .i64 (bA (liftF xs ss) k) ∧ Below w.heap.size w wr) (fun _ _ _ i _ _ => n' - (intOf i).toNat)
    case atStart => exact ⟨0, Nat.zero_le _, rfl, by rw [bA_zero], hb1⟩
    case round =>
      obtain ⟨i, hi, rfl, rfl, hbr⟩ := hrel
      have hA := bA_bd (liftF_bd xs ss) i (by omega)
      clear hb1
      by_cases hlt : i < n'
      · go_wp2_with fail
        obtain ⟨wo, hwo⟩ : ∃ wo : World, wo = wr := ⟨_, rfl⟩
        clear hwo
        go_loopw [5, 7, 18] (fun c _ j wr => ∃ d : Nat, d ≤ i ∧ j = .int .i64 d ∧ c = .int .i64 (bA (liftF xs ss) i + bS (liftF xs ss) i d) ∧ Below w.heap.size w wr) (fun _ _ j _ => i - (intOf j).toNat)
        case atStart => exact ⟨0, Nat.zero_le _, rfl, by rw [bS_zero]; simp, hbr⟩
        case round =>
          obtain ⟨d, hdd, rfl, rfl, hb2⟩ := hrel
          have hS := bS_bd (liftF_bd xs ss) i d
          by_cases hlt2 : d < i
          · have c1 := (h.below hb2).cell hlt
            have c2 := (h.below hb2).cell (k := d) (by omega)
            have c3 := (h'.below hb2).cell hlt
            have c4 := (h'.below hb2).cell (k := d) (by omega)
            have i1 : (0 : Int) ≤ (i : Int) := by omega
            have i2 : (i : Int) < (n' : Int) := by omega
            have i3 : (0 : Int) ≤ (d : Int) := by omega
            have i4 : (d : Int) < (n' : Int) := by omega
            have hsucc : Hid (bS (liftF xs ss) i (d + 1) = bS (liftF xs ss) i d + liftF xs ss d i) := bS_succ _ _ _
            by_cases he : el ss d = el ss i
            · have he' : (el ss d == el ss i) = true := by simpa using he
              by_cases hx : el xs d < el xs i
              · have hx' : decide (el xs d < el xs i) = true := decide_eq_true hx
                have hf : Hid (liftF xs ss d i = 1) := by show _ = _; unfold liftF; rw [if_pos ⟨he, hx⟩]
                clear he
                go_wp2_with fail
                go_quiet (fail)
                go_wp2
                go_roundw
                case rel => exact ⟨d + 1, by omega, by go_num, by rw [hsucc.out, hf.out]; go_num, by (repeat' (first | exact Below.refl _ _ | refine Below.alloc ?_ ?_ _ | refine Below.setCell ?_ ?_ _ | refine Below.drew ?_ | refine below_drewN ?_ _ | refine Below.trans ?_ (Below.mono (by assumption) ?_))) <;> (try first | omega | (simp; done) | (simp at *; omega))⟩
                case measure => simp [intOf]; omega
              · have hx' : decide (el xs d < el xs i) = false := decide_eq_false hx
                have hf : Hid (liftF xs ss d i = 0) := by show _ = _; unfold liftF; rw [if_neg (fun hh => hx hh.2)]
                clear he
                go_wp2_with fail
                go_quiet (fail)
                go_wp2
                go_roundw
                case rel => exact ⟨d + 1, by omega, by go_num, by rw [hsucc.out, hf.out]; go_num, by (repeat' (first | exact Below.refl _ _ | refine Below.alloc ?_ ?_ _ | refine Below.setCell ?_ ?_ _ | refine Below.drew ?_ | refine below_drewN ?_ _ | refine Below.trans ?_ (Below.mono (by assumption) ?_))) <;> (try first | omega | (simp; done) | (simp at *; omega))⟩
                case measure => simp [intOf]; omega
            · have he' : (el ss d == el ss i) = false := by simpa using he
              have hf : Hid (liftF xs ss d i = 0) := by show _ = _; unfold liftF; rw [if_neg (fun hh => he hh.1)]
              go_wp2_with fail
              go_quiet (fail)
              go_wp2
              go_roundw
              case rel => exact ⟨d + 1, by omega, by go_num, by rw [hsucc.out, hf.out]; go_num, by (repeat' (first | exact Below.refl _ _ | refine Below.alloc ?_ ?_ _ | refine Below.setCell ?_ ?_ _ | refine Below.drew ?_ | refine below_drewN ?_ _ | refine Below.trans ?_ (Below.mono (by assumption) ?_))) <;> (try first | omega | (simp; done) | (simp at *; omega))⟩
              case measure => simp [intOf]; omega
          · have hdn : d = i := by omega
            have hsA : Hid (bA (liftF xs ss) (i + 1) = bA (liftF xs ss) i + bS (liftF xs ss) i d) := by show _ = _; rw [bA_succ, hdn]
            go_wp2
            go_roundw
            case rel => exact ⟨i + 1, by omega, by go_num, by rw [hsA.out], hb2⟩
            case measure => simp [intOf]; omega
      · have hin : i = n' := by omega
        have hv2 : Hid (bA (liftF xs ss) i = liftsI xs ss) := by show _ = _; rw [HI.out, hin, bA_pairs]
        clear hin
        go_wp2
        go_ret
        exact ⟨ret_int hv2.out, hbr⟩
theorem FnExactSwapsFor_walk (v0 : Value) (zs0 : List Int) (w : World) (hv0 : ISl w v0 zs0) : Calls Try.prog 10 #[v0] w (Rt (.bool true) w) := by
  have hv0' := hv0
  obtain ⟨p0, cap0, rfl, _⟩ := hv0'
  by_cases hl0 : zs0.length ≤ 1048576
  · have ml0 : zs0.length ≤ maxLen := by unfold maxLen; omega
    go_enter Try.func10, Try.ntmps10
    go_wp2_with fail
    have hB0 : Below w.heap.size w w := Below.refl _ _
    refine (toIntS_c _ zs0 _ (hv0.below hB0) hl0).mono ?_
    rintro e w1 ⟨g1, rfl, ho1, hb1⟩
    have hB1 := hB0.trans (hb1.mono hB0.size)
    have s0 := ho1.sl hl0 ml0
    clear ho1
    clear hB0 hb1
    go_wp2_with fail
    refine (spec_SwapsFor_s s0).mono ?_
    rintro e w2 ⟨rfl, hb2⟩
    have hB2 := hB1.trans (hb2.mono hB1.size)
    replace s0 := s0.below hb2
    clear hB1 hb2
    go_wp2_with fail
    clear s0
    refine (toIntS_c _ zs0 _ (hv0.below hB2) hl0).mono ?_
    rintro e w3 ⟨g3, rfl, ho3, hb3⟩
    have hB3 := hB2.trans (hb3.mono hB2.size)
    have s0 := ho3.sl hl0 ml0
    clear ho3
    clear hB2 hb3
    go_wp2_with fail
    refine (impl_SwapsFor_s s0).mono ?_
    rintro e w4 ⟨rfl, hb4⟩
    have hB4 := hB3.trans (hb4.mono hB3.size)
    replace s0 := s0.below hb4
    clear hB3 hb4
    go_wp2_with fail
    refine (toIntS_c _ zs0 _ (hv0.below hB4) hl0).mono ?_
    rintro e w5 ⟨g5, rfl, ho5, hb5⟩
    have hB5 := hB4.trans (hb5.mono hB4.size)
    replace s0 := s0.below hb5
    have t0 := ho5.sl hl0 ml0
    clear ho5
    clear hB4 hb5
    go_wp2_with fail
    refine (rd_rt (eqIntS_c _ _ zs0 zs0 _ s0.isl t0.isl hl0 hl0)).mono ?_
    rintro e w6 ⟨rfl, hb6⟩
    have hB6 := hB5.trans (hb6.mono hB5.size)
    replace s0 := s0.below hb6
    replace t0 := t0.below hb6
    clear hB5 hb6
    go_wp2
    go_ret
    exact ⟨rfl, hB6⟩
  · have hl0' : (1048576 : Int) < (zs0.length : Int) := by omega
    go_enter Try.func10, Try.ntmps10
    go_wp2
    all_goals (go_ret; exact ⟨rfl, Below.refl _ _⟩)
theorem FnExactLiftsOf_walk (v0 : Value) (zs0 : List Int) (v1 : Value) (zs1 : List Int) (w : World) (hv0 : ISl w v0 zs0) (hv1 : ISl w v1 zs1) : Calls Try.prog 11 #[v0, v1] w (Rt (.bool true) w) := by
  have hv0' := hv0
  obtain ⟨p0, cap0, rfl, _⟩ := hv0'
  have hv1' := hv1
  obtain ⟨p1, cap1, rfl, _⟩ := hv1'
  by_cases hl0 : zs0.length ≤ 1048576
  · have ml0 : zs0.length ≤ maxLen := by unfold maxLen; omega
    by_cases hl1 : zs1.length ≤ 1048576
    · have ml1 : zs1.length ≤ maxLen := by unfold maxLen; omega
      go_enter Try.func11, Try.ntmps11
      go_wp2_with fail
      have hB0 : Below w.heap.size w w := Below.refl _ _
      refine (toIntS_c _ zs0 _ (hv0.below hB0) hl0).mono ?_
      rintro e w1 ⟨g1, rfl, ho1, hb1⟩
      have hB1 := hB0.trans (hb1.mono hB0.size)
      have s0 := ho1.sl hl0 ml0
      clear ho1
      clear hB0 hb1
      go_wp2_with fail
      refine (toIntS_c _ zs1 _ (hv1.below hB1) hl1).mono ?_
      rintro e w2 ⟨g2, rfl, ho2, hb2⟩
      have hB2 := hB1.trans (hb2.mono hB1.size)
      replace s0 := s0.below hb2
      have s1 := ho2.sl hl1 ml1
      clear ho2
      clear hB1 hb2
      go_wp2_with fail
      refine (rd_rt (spec_LiftsOf_s s0 s1)).mono ?_
      rintro e w3 ⟨rfl, hb3⟩
      have hB3 := hB2.trans (hb3.mono hB2.size)
      replace s0 := s0.below hb3
      replace s1 := s1.below hb3
      clear hB2 hb3
      go_wp2_with fail
      clear s0
      clear s1
      refine (toIntS_c _ zs0 _ (hv0.below hB3) hl0).mono ?_
      rintro e w4 ⟨g4, rfl, ho4, hb4⟩
      have hB4 := hB3.trans (hb4.mono hB3.size)
      have s0 := ho4.sl hl0 ml0
      clear ho4
      clear hB3 hb4
      go_wp2_with fail
      refine (toIntS_c _ zs1 _ (hv1.below hB4) hl1).mono ?_
      rintro e w5 ⟨g5, rfl, ho5, hb5⟩
      have hB5 := hB4.trans (hb5.mono hB4.size)
      replace s0 := s0.below hb5
      have s1 := ho5.sl hl1 ml1
      clear ho5
      clear hB4 hb5
      go_wp2_with fail
      refine (impl_LiftsOf_s s0 s1).mono ?_
      rintro e w6 ⟨rfl, hb6⟩
      have hB6 := hB5.trans (hb6.mono hB5.size)
      replace s0 := s0.below hb6
      replace s1 := s1.below hb6
      clear hB5 hb6
      go_wp2_with fail
      refine (toIntS_c _ zs0 _ (hv0.below hB6) hl0).mono ?_
      rintro e w7 ⟨g7, rfl, ho7, hb7⟩
      have hB7 := hB6.trans (hb7.mono hB6.size)
      replace s0 := s0.below hb7
      replace s1 := s1.below hb7
      have t0 := ho7.sl hl0 ml0
      clear ho7
      clear hB6 hb7
      go_wp2_with fail
      refine (rd_rt (eqIntS_c _ _ zs0 zs0 _ s0.isl t0.isl hl0 hl0)).mono ?_
      rintro e w8 ⟨rfl, hb8⟩
      have hB8 := hB7.trans (hb8.mono hB7.size)
      replace s0 := s0.below hb8
      replace s1 := s1.below hb8
      replace t0 := t0.below hb8
      clear hB7 hb8
      go_wp2_with fail
      refine (toIntS_c _ zs1 _ (hv1.below hB8) hl1).mono ?_
      rintro e w9 ⟨g9, rfl, ho9, hb9⟩
      have hB9 := hB8.trans (hb9.mono hB8.size)
      replace s0 := s0.below hb9
      replace s1 := s1.below hb9
      replace t0 := t0.below hb9
      have t1 := ho9.sl hl1 ml1
      clear ho9
      clear hB8 hb9
      go_wp2_with fail
      refine (rd_rt (eqIntS_c _ _ zs1 zs1 _ s1.isl t1.isl hl1 hl1)).mono ?_
      rintro e w10 ⟨rfl, hb10⟩
      have hB10 := hB9.trans (hb10.mono hB9.size)
      replace s0 := s0.below hb10
      replace s1 := s1.below hb10
      replace t0 := t0.below hb10
      replace t1 := t1.below hb10
      clear hB9 hb10
      go_wp2
      go_ret
      exact ⟨rfl, hB10⟩
    · have hl1' : (1048576 : Int) < (zs1.length : Int) := by omega
      go_enter Try.func11, Try.ntmps11
      go_wp2
      all_goals (go_ret; exact ⟨rfl, Below.refl _ _⟩)
  · have hl0' : (1048576 : Int) < (zs0.length : Int) := by omega
    go_enter Try.func11, Try.ntmps11
    go_wp2
    all_goals (go_ret; exact ⟨rfl, Below.refl _ _⟩)
end Go.Proofs.Ytglglgfiifjejaa
