/- The walk of the exact law on BalanceRack; no statement is proved here. -/
import Derived.Test.YtimfabpigpcjhaaBal2
import Derived.Test.YtimfabpigpcjhaaHelp
namespace Go.Proofs.Ytimfabpigpcjhaa
open Go.ChangeShapes Go.WideShapes Go.ChangeAt Go.RowKit
set_option linter.unusedVariables false
set_option linter.unusedSimpArgs false

theorem balR_short {zs : List Int} (h : zs.length ≤ 1048576) : (balR zs).length ≤ 1048576 := by
  unfold balR; split
  · rw [lefts_length]; exact h
  · simp
set_option maxHeartbeats 2000000 in
theorem FnExactBalanceRack_walk (v0 : Value) (zs0 : List Int) (w : World) (hv0 : ISl w v0 zs0) : Calls Try.prog 8 #[v0] w (Rt (.bool true) w) := by
  have hv0' := hv0
  obtain ⟨p0, cap0, rfl, _⟩ := hv0'
  by_cases hl0 : zs0.length ≤ 1048576
  · have ml0 : zs0.length ≤ maxLen := by unfold maxLen; omega
    obtain ⟨RS, hRS⟩ : ∃ RS, RS = balR zs0 := ⟨_, rfl⟩
    have hr : RS.length ≤ 1048576 := by rw [hRS]; exact balR_short hl0
    have hB0 : Below w.heap.size w w := Below.refl _ _
    go_enter Try.func8, Try.ntmps8
    have HRS := mkhid hRS
    clear hRS
    go_wp2_with fail
    refine (toIntS_c _ zs0 _ (hv0.below hB0) hl0).mono ?_
    rintro e w1 ⟨g1, rfl, ho1, hb1⟩
    have hB1 := hB0.trans (hb1.mono hB0.size)
    have hz1 := hb1.size
    have s0 := ho1.sl hl0 ml0
    clear ho1
    clear hB0 hb1
    go_wp2_with fail
    refine (spec_BalanceRack_s s0).mono ?_
    rintro e w2 ⟨vW, rfl, OW, hb2⟩
    have hB2 := hB1.trans (hb2.mono hB1.size)
    have hz2 := hb2.size
    replace s0 := s0.below hb2
    have OW_c := OW
    rw [← HRS.out] at OW OW_c
    clear hB1 hb2
    go_wp2_with fail
    clear s0
    refine (toIntS_c _ zs0 _ (hv0.below hB2) hl0).mono ?_
    rintro e w3 ⟨g3, rfl, ho3, hb3⟩
    have hB3 := hB2.trans (hb3.mono hB2.size)
    have hz3 := hb3.size
    replace OW := OW.below hb3
    have s0 := ho3.sl hl0 ml0
    have OX0 := ho3
    have OX0_c := ho3
    clear ho3
    clear hB2 hb3
    go_wp2_with fail
    refine (impl_BalanceRack_s s0).mono ?_
    rintro e w4 ⟨vG, rfl, OG, hb4⟩
    have hB4 := hB3.trans (hb4.mono hB3.size)
    have hz4 := hb4.size
    replace OW := OW.below hb4
    replace s0 := s0.below hb4
    replace OX0 := OX0.below hb4
    have OG_c := OG
    rw [← HRS.out] at OG OG_c
    clear hB3 hb4
    go_wp2_with fail
    have d_WX0 := ownB_apart2 OW_c OX0_c (by omega)
    have d_XG0 := ownB_apart OX0_c OG_c (by omega)
    have d_WG := ownB_apart3 OW_c OG_c (by omega)
    clear OW_c OG_c OX0_c
    refine (rd_rt (eqBoolS_same OG OW hr)).mono ?_
    rintro e w5 ⟨rfl, hb5⟩
    have hB5 := hB4.trans (hb5.mono hB4.size)
    have hz5 := hb5.size
    replace OW := OW.below hb5
    replace s0 := s0.below hb5
    replace OX0 := OX0.below hb5
    replace OG := OG.below hb5
    clear hB4 hb5
    go_wp2_with fail
    refine (toIntS_c _ zs0 _ (hv0.below hB5) hl0).mono ?_
    rintro e w6 ⟨g6, rfl, ho6, hb6⟩
    have hB6 := hB5.trans (hb6.mono hB5.size)
    have hz6 := hb6.size
    replace OW := OW.below hb6
    replace s0 := s0.below hb6
    replace OX0 := OX0.below hb6
    replace OG := OG.below hb6
    have t0 := ho6.sl hl0 ml0
    clear ho6
    clear hB5 hb6
    go_wp2_with fail
    refine (rd_rt (eqIntS_c _ _ zs0 zs0 _ s0.isl t0.isl hl0 hl0)).mono ?_
    rintro e w7 ⟨rfl, hb7⟩
    have hB7 := hB6.trans (hb7.mono hB6.size)
    have hz7 := hb7.size
    replace OW := OW.below hb7
    replace s0 := s0.below hb7
    replace OX0 := OX0.below hb7
    replace OG := OG.below hb7
    replace t0 := t0.below hb7
    clear hB6 hb7
    go_wp2_with fail
    clear s0 t0
    refine (markIntS_c _ _ _ (1) _ OX0 hl0 ⟨by omega, by omega⟩).mono ?_
    rintro e w8 ⟨rfl, N8, gr8⟩
    have hb8 := Own.below_of (C := w.heap.size) OX0 gr8 (by omega) hB7.size
    replace OW := OW.kept gr8 d_WX0
    replace OG := OG.kept gr8 (apart_symm d_XG0)
    have hz8 := gr8.size
    have hB8 := hB7.trans hb8
    replace OX0 := N8
    clear N8 gr8 hB7 hb8
    go_wp2_with fail
    refine (rd_rt (eqBoolS_same OG OW hr)).mono ?_
    rintro e w9 ⟨rfl, hb9⟩
    have hB9 := hB8.trans (hb9.mono hB8.size)
    have hz9 := hb9.size
    replace OW := OW.below hb9
    replace OX0 := OX0.below hb9
    replace OG := OG.below hb9
    clear hB8 hb9
    go_wp2_with fail
    clear OX0
    refine (markBoolS_c _ _ _ (1) _ OG hr ⟨by omega, by omega⟩).mono ?_
    rintro e w10 ⟨rfl, N10, gr10⟩
    have hb10 := OwnB.below_of (C := w.heap.size) OG gr10 (by omega) hB9.size
    replace OW := OW.kept gr10 d_WG
    have hz10 := gr10.size
    have hB10 := hB9.trans hb10
    replace OG := N10
    clear N10 gr10 hB9 hb10
    go_wp2_with fail
    refine (heldBoolS_c _ _ 1 RS.length _ OG hr ⟨by omega, by omega⟩).mono ?_
    rintro e _ ⟨rfl, rfl⟩
    go_wp2_with fail
    refine (toIntS_c _ zs0 _ (hv0.below hB10) hl0).mono ?_
    rintro e w11 ⟨g11, rfl, ho11, hb11⟩
    have hB11 := hB10.trans (hb11.mono hB10.size)
    have hz11 := hb11.size
    replace OW := OW.below hb11
    replace OG := OG.below hb11
    have s0 := ho11.sl hl0 ml0
    clear ho11
    clear hB10 hb11
    go_wp2_with fail
    refine (impl_BalanceRack_s s0).mono ?_
    rintro e w12 ⟨vH, rfl, OH, hb12⟩
    have hB12 := hB11.trans (hb12.mono hB11.size)
    have hz12 := hb12.size
    replace OW := OW.below hb12
    replace OG := OG.below hb12
    replace s0 := s0.below hb12
    rw [← HRS.out] at OH
    clear hB11 hb12
    go_wp2_with fail
    refine (rd_rt (eqBoolS_same OH OW hr)).mono ?_
    rintro e w13 ⟨rfl, hb13⟩
    have hB13 := hB12.trans (hb13.mono hB12.size)
    have hz13 := hb13.size
    replace OW := OW.below hb13
    replace OG := OG.below hb13
    replace s0 := s0.below hb13
    replace OH := OH.below hb13
    clear hB12 hb13
    go_wp2_with fail
    refine (heldBoolS_c _ _ 1 RS.length _ OG hr ⟨by omega, by omega⟩).mono ?_
    rintro e _ ⟨rfl, rfl⟩
    go_wp2
    go_ret
    exact ⟨rfl, hB13⟩
  · have hl0' : (1048576 : Int) < (zs0.length : Int) := by omega
    go_enter Try.func8, Try.ntmps8
    go_wp2
    all_goals (go_ret; exact ⟨rfl, Below.refl _ _⟩)
end Go.Proofs.Ytimfabpigpcjhaa
