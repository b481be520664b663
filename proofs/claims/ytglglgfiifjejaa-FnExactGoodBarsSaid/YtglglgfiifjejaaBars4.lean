/- GoodBars of impl, and the law's walk; no statement is proved here. -/
import Derived.Test.YtglglgfiifjejaaBars3
namespace Go.Proofs.Ytglglgfiifjejaa
open Go.ChangeShapes Go.WideShapes Go.ChangeAt Go.RowKit
set_option linter.unusedVariables false
set_option linter.unusedSimpArgs false

set_option maxHeartbeats 1000000 in
theorem impl_GoodBars_s {b off n cap b' off' n' cap' : Nat} {zs bs : List Int} {bar : Int} {w : World} (h : Sl w b off n cap zs) (h' : Sl w b' off' n' cap' bs) :
    Calls Try.prog 38 #[.slice (some ⟨b, off, none⟩) n cap, (.int .i64 bar), .slice (some ⟨b', off', none⟩) n' cap'] w (Rt (.bool (gBars zs bs bar)) w) := by
  have hs := h.small
  have hs' := h'.small
  have HN := mkhid h.len
  have HM := mkhid h'.len
  have C1 := impl_barLengths_s (bar := bar) (mx := 20) h
  cases hv : vBar zs bar 20
  · have hg : Hid (gBars zs bs bar = false) := gBars_no (fun hh => by rw [hv] at hh; exact absurd hh.1 (by simp))
    rw [hv] at C1
    clear hv
    go_enter Try.func38, Try.ntmps38
    go_wp2_with (go_at_call 78; refine C1.mono ?_; rintro e w1 ⟨rfl, rfl⟩)
    go_ret
    exact ⟨ret_bool hg.out.symm, Below.refl _ _⟩
  · rw [hv] at C1
    obtain ⟨⟨v1, v2, v3⟩, vb⟩ := vBar_iff.1 hv
    rw [HN.out] at v3 vb
    have hn20 : n ≤ 20 := by omega
    have HV := mkhid hv
    have HVB := mkhid vb
    clear hv vb
    by_cases he : n' = n
    · subst he
      have e0 : ((n' : Int) != (n' : Int)) = false := by simp
      have hml : n' ≤ maxLen := by unfold maxLen; omega
      have hmk := run_make_row' (P := Try.prog) 22 3 (.int .i64 0) 8 Try.underlying22 Try.infoInt rfl .i64 .i64 n' (by omega) hml
      have O0 := zeros_own w n' hml
      have hb0 : Below w.heap.size w (w.alloc (.cells (madeCells #[Value.int .i64 0] n') 3)) := (Below.refl _ _).alloc (Nat.le_refl _) _
      have hrz : List.replicate n' (0 : Int) = rowL zs bs 0 n' := by
        refine ext_el (by rw [rowL_length]; simp) fun i hi => ?_
        have hi' : i < n' := by simpa using hi
        rw [rowL_el hi', ldF_zero, el_zeros hi']
      rw [hrz] at O0
      have hG0 := mkhid (show (-1 : Int) + 1 = (tpF bs 0 : Int) by rw [tpF_zero]; rfl)
      clear hrz
      go_enter Try.func38, Try.ntmps38
      go_wp2_with (go_at_call 78; refine C1.mono ?_; rintro e w1 ⟨rfl, rfl⟩)
      go_loopw [8, 29] (fun gr i wr => ∃ k : Nat, ∃ G : Int, k ≤ n' ∧ i = .int .i64 k ∧ gr = .int .i64 G ∧ -1 ≤ G ∧ G < 20 ∧ Hid (G + 1 = (tpF bs k : Int)) ∧ Hid (okIx bs n' k) ∧ Own wr w.heap.size 3 (.slice (some ⟨w.heap.size, 0, none⟩) n' n') (rowL zs bs k n') ∧ Below w.heap.size w wr) (fun _ i _ => n' - (intOf i).toNat)
      case atStart => exact ⟨0, -1, Nat.zero_le _, rfl, rfl, by omega, by omega, hG0, fun i hi => by omega, O0, hb0⟩
      case round =>
        obtain ⟨k, G, hk, rfl, rfl, g1, g2, HG, HB, ho, hbr⟩ := hrel
        clear O0 hb0
        by_cases hlt : k < n'
        · have i1 : (0 : Int) ≤ (k : Int) := by omega
          have i2 : (k : Int) < (n' : Int) := by omega
          have c1 := (h.below hbr).cell hlt
          have c2 := (h'.below hbr).cell hlt
          by_cases h1 : 0 ≤ el bs k
          · have d1 : decide (el bs k < 0) = false := decide_eq_false (by omega)
            by_cases h2 : el bs k < n'
            · have d2 : decide ((n' : Int) ≤ el bs k) = false := decide_eq_false (by omega)
              have hok := mkhid (okIx_succ HB.out ⟨h1, h2⟩)
              obtain ⟨x, hx⟩ : ∃ x : Nat, el bs k = x := ⟨(el bs k).toNat, by omega⟩
              have HX := mkhid hx
              rw [hx] at c2 d1 d2 h1 h2
              have hxn : x < n' := by omega
              have hld := ldF_bd (zs := zs) (bs := bs) (c := 200) (n := n') (fun i hi => by have := HVB.out i hi; omega) (by omega) k hk x
              have hzk := HVB.out k hlt
              have ef := (own_facts ho x).1 hxn
              have ff := (own_facts ho x).2
              rw [rowL_el hxn] at ef
              have P1 := own_set ho x (ldF zs bs k x + el zs k)
              rw [rowL_set HX.out hxn] at P1
              have hb3 := hbr.setCell (p := ⟨w.heap.size, x, none⟩) (Nat.le_refl _) (.int .i64 (ldF zs bs k x + el zs k))
              have k1 : (0 : Int) ≤ (x : Int) := by omega
              have k2 : (x : Int) < (n' : Int) := by omega
              have hw1 : IntKind.i64.wrap (ldF zs bs k x + el zs k) = ldF zs bs k x + el zs k := IntWalk.i64_in _ (by omega)
              have hnext := mkhid (tpF_succ bs k)
              clear hx
              by_cases hgx : G < x
              · have hGn : Hid ((x : Int) + 1 = (tpF bs (k + 1) : Int)) := by
                  show _ = _; rw [hnext.out, HX.out]; have := HG.out; omega
                have d3 : decide (G < (x : Int)) = true := decide_eq_true hgx
                go_wp2_with fail
                go_region
                all_goals go_wp2
                all_goals go_roundw
                case rel => exact ⟨k + 1, x, by omega, by go_num, rfl, by omega, by omega, hGn, hok, P1, (by first | exact hb3 | exact hb3.drew)⟩
                case measure => simp [intOf]; omega
              · have hGn : Hid (G + 1 = (tpF bs (k + 1) : Int)) := by
                  show _ = _; rw [hnext.out, HX.out]; have := HG.out; omega
                have d3 : decide (G < (x : Int)) = false := decide_eq_false hgx
                go_wp2_with fail
                go_region
                all_goals go_wp2
                all_goals go_roundw
                case rel => exact ⟨k + 1, G, by omega, by go_num, rfl, by omega, by omega, hGn, hok, P1, (by first | exact hb3 | exact hb3.drew)⟩
                case measure => simp [intOf]; omega
            · have d2 : decide ((n' : Int) ≤ el bs k) = true := decide_eq_true (by omega)
              have hg : Hid (gBars zs bs bar = false) := gBars_no (fun hh => h2 (by
                have := hh.2.2.1 k (by rw [HM.out]; exact hlt)
                rw [HN.out] at this; omega))
              clear h1 h2
              go_wp2_with fail
              go_ret
              exact ⟨ret_bool hg.out.symm, hbr⟩
          · have d1 : decide (el bs k < 0) = true := decide_eq_true (by omega)
            have hg : Hid (gBars zs bs bar = false) := gBars_no (fun hh => h1 (by
              have := hh.2.2.1 k (by rw [HM.out]; exact hlt)
              exact this.1))
            clear h1
            go_wp2_with fail
            go_ret
            exact ⟨ret_bool hg.out.symm, hbr⟩
        · have hkn := mkhid (show k = n' by omega)
          have HX := mkhid (hkn.out ▸ HB.out)
          rw [hkn.out] at ho
          obtain ⟨T, hT⟩ : ∃ T : Nat, G = (T : Int) - 1 := ⟨(G + 1).toNat, by omega⟩
          subst hT
          have HT : Hid (T = tpF bs n') := by show _ = _; have := HG.out; rw [hkn.out] at this; omega
          have hTn := tpF_le (bs := bs) (n := n') (m := n') (fun i hi => (HX.out i hi).2) n' (Nat.le_refl _) (by omega)
          rw [← HT.out] at hTn
          have e9 : (T : Int) - 1 + 1 = (T : Int) := by omega
          have e8 : (0 : Int) ≤ (T : Int) := by omega
          have e7 : (T : Int) ≤ (n' : Int) := by omega
          clear HB HG
          go_wp2_with fail
          go_loop [61] (fun i => ∃ j : Nat, j ≤ T ∧ i = .int .i64 j ∧ Hid (okLd zs bs n' bar j)) (fun i => T - (intOf i).toNat)
          case atStart => exact ⟨0, Nat.zero_le _, rfl, fun i hi => by omega⟩
          case round =>
            obtain ⟨j, hj, rfl, HJ⟩ := hrel
            by_cases hjt : j < T
            · have ef := (own_facts ho j).1 (by omega)
              rw [rowL_el (by omega)] at ef
              have hld := (ldF_bd (zs := zs) (bs := bs) (c := 200) (n := n') (fun i hi => by have := HVB.out i hi; omega) (by omega) n' (Nat.le_refl _) j).1
              have hno : ¬ (1 ≤ ldF zs bs n' j ∧ ldF zs bs n' j ≤ bar) → Hid (gBars zs bs bar = false) := fun h1 => gBars_no (fun hh => h1 (by
                have := hh.2.2.2
                rw [HN.out, ← HT.out] at this
                exact this j hjt))
              by_cases q1 : ldF zs bs n' j = 0
              · have hg := hno (fun hh => by omega)
                have d1 : (ldF zs bs n' j == 0) = true := by simpa using q1
                clear q1 hno
                go_wp2_with fail
                go_ret
                exact ⟨ret_bool hg.out.symm, hbr⟩
              · have d1 : (ldF zs bs n' j == 0) = false := by simpa using q1
                by_cases q2 : ldF zs bs n' j ≤ bar
                · have d2 : decide (bar < ldF zs bs n' j) = false := decide_eq_false (by omega)
                  have hok := mkhid (okLd_succ HJ.out ⟨by omega, q2⟩)
                  clear q1 q2 hno
                  go_wp2_with fail
                  go_round
                  case rel => exact ⟨j + 1, by omega, by go_num, hok⟩
                  case measure => simp [intOf]; omega
                · have d2 : decide (bar < ldF zs bs n' j) = true := decide_eq_true (by omega)
                  have hg := hno (fun hh => q2 hh.2)
                  clear q1 q2 hno
                  go_wp2_with fail
                  go_ret
                  exact ⟨ret_bool hg.out.symm, hbr⟩
            · have hg : Hid (gBars zs bs bar = true) := gBars_iff.2 ⟨HV.out, HM.out.trans HN.out.symm, by rw [HN.out, HM.out]; exact HX.out, by
                rw [HN.out, ← HT.out]
                have : j = T := by omega
                exact this ▸ HJ.out⟩
              go_wp2
              go_ret
              exact ⟨ret_bool hg.out.symm, hbr⟩
    · have e0 : ((n' : Int) != (n : Int)) = true := by simp; omega
      have hg : Hid (gBars zs bs bar = false) := gBars_no (fun hh => he (by have := hh.2.1; rw [HN.out, HM.out] at this; exact this))
      go_enter Try.func38, Try.ntmps38
      go_wp2_with (go_at_call 78; refine C1.mono ?_; rintro e w1 ⟨rfl, rfl⟩)
      go_ret
      exact ⟨ret_bool hg.out.symm, Below.refl _ _⟩
theorem FnExactGoodBars_walk (v0 : Value) (zs0 : List Int) (a1 : Int) (v2 : Value) (zs2 : List Int) (w : World) (hv0 : ISl w v0 zs0) (hv2 : ISl w v2 zs2) : Calls Try.prog 8 #[v0, .int .i64 a1, v2] w (Rt (.bool true) w) := by
  have hv0' := hv0
  obtain ⟨p0, cap0, rfl, _⟩ := hv0'
  have hv2' := hv2
  obtain ⟨p2, cap2, rfl, _⟩ := hv2'
  by_cases hl0 : zs0.length ≤ 1048576
  · have ml0 : zs0.length ≤ maxLen := by unfold maxLen; omega
    by_cases hl2 : zs2.length ≤ 1048576
    · have ml2 : zs2.length ≤ maxLen := by unfold maxLen; omega
      go_enter Try.func8, Try.ntmps8
      go_wp2_with fail
      have hB0 : Below w.heap.size w w := Below.refl _ _
      refine (toIntS_c _ zs0 _ (hv0.below hB0) hl0).mono ?_
      rintro e w1 ⟨g1, rfl, ho1, hb1⟩
      have hB1 := hB0.trans (hb1.mono hB0.size)
      have s0 := ho1.sl hl0 ml0
      clear ho1
      clear hB0 hb1
      go_wp2_with fail
      refine (toIntS_c _ zs2 _ (hv2.below hB1) hl2).mono ?_
      rintro e w2 ⟨g2, rfl, ho2, hb2⟩
      have hB2 := hB1.trans (hb2.mono hB1.size)
      replace s0 := s0.below hb2
      have s2 := ho2.sl hl2 ml2
      clear ho2
      clear hB1 hb2
      go_wp2_with fail
      refine (spec_GoodBars_s s0 s2).mono ?_
      rintro e w3 ⟨rfl, hb3⟩
      have hB3 := hB2.trans (hb3.mono hB2.size)
      replace s0 := s0.below hb3
      replace s2 := s2.below hb3
      clear hB2 hb3
      go_wp2_with fail
      clear s0
      clear s2
      refine (toIntS_c _ zs0 _ (hv0.below hB3) hl0).mono ?_
      rintro e w4 ⟨g4, rfl, ho4, hb4⟩
      have hB4 := hB3.trans (hb4.mono hB3.size)
      have s0 := ho4.sl hl0 ml0
      clear ho4
      clear hB3 hb4
      go_wp2_with fail
      refine (toIntS_c _ zs2 _ (hv2.below hB4) hl2).mono ?_
      rintro e w5 ⟨g5, rfl, ho5, hb5⟩
      have hB5 := hB4.trans (hb5.mono hB4.size)
      replace s0 := s0.below hb5
      have s2 := ho5.sl hl2 ml2
      clear ho5
      clear hB4 hb5
      go_wp2_with fail
      refine (impl_GoodBars_s s0 s2).mono ?_
      rintro e w6 ⟨rfl, hb6⟩
      have hB6 := hB5.trans (hb6.mono hB5.size)
      replace s0 := s0.below hb6
      replace s2 := s2.below hb6
      clear hB5 hb6
      go_wp2_with fail
      refine (toIntS_c _ zs0 _ (hv0.below hB6) hl0).mono ?_
      rintro e w7 ⟨g7, rfl, ho7, hb7⟩
      have hB7 := hB6.trans (hb7.mono hB6.size)
      replace s0 := s0.below hb7
      replace s2 := s2.below hb7
      have t0 := ho7.sl hl0 ml0
      clear ho7
      clear hB6 hb7
      go_wp2_with fail
      refine (rd_rt (eqIntS_c _ _ zs0 zs0 _ s0.isl t0.isl hl0 hl0)).mono ?_
      rintro e w8 ⟨rfl, hb8⟩
      have hB8 := hB7.trans (hb8.mono hB7.size)
      replace s0 := s0.below hb8
      replace s2 := s2.below hb8
      replace t0 := t0.below hb8
      clear hB7 hb8
      go_wp2_with fail
      refine (toIntS_c _ zs2 _ (hv2.below hB8) hl2).mono ?_
      rintro e w9 ⟨g9, rfl, ho9, hb9⟩
      have hB9 := hB8.trans (hb9.mono hB8.size)
      replace s0 := s0.below hb9
      replace s2 := s2.below hb9
      replace t0 := t0.below hb9
      have t2 := ho9.sl hl2 ml2
      clear ho9
      clear hB8 hb9
      go_wp2_with fail
      refine (rd_rt (eqIntS_c _ _ zs2 zs2 _ s2.isl t2.isl hl2 hl2)).mono ?_
      rintro e w10 ⟨rfl, hb10⟩
      have hB10 := hB9.trans (hb10.mono hB9.size)
      replace s0 := s0.below hb10
      replace s2 := s2.below hb10
      replace t0 := t0.below hb10
      replace t2 := t2.below hb10
      clear hB9 hb10
      go_wp2
      go_ret
      exact ⟨rfl, hB10⟩
    · have hl2' : (1048576 : Int) < (zs2.length : Int) := by omega
      go_enter Try.func8, Try.ntmps8
      go_wp2
      all_goals (go_ret; exact ⟨rfl, Below.refl _ _⟩)
  · have hl0' : (1048576 : Int) < (zs0.length : Int) := by omega
    go_enter Try.func8, Try.ntmps8
    go_wp2
    all_goals (go_ret; exact ⟨rfl, Below.refl _ _⟩)
end Go.Proofs.Ytglglgfiifjejaa
