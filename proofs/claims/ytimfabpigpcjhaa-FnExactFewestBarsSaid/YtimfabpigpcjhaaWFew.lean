/- The walk of the exact law on FewestBars; no statement is proved here. -/
import Derived.Test.YtimfabpigpcjhaaFewJ
import Derived.Test.YtimfabpigpcjhaaFewT
namespace Go.Proofs.Ytimfabpigpcjhaa
open Go.ChangeShapes Go.WideShapes Go.ChangeAt Go.RowKit
set_option linter.unusedVariables false
set_option linter.unusedSimpArgs false

theorem FnExactFewestBars_walk (v0 : Value) (zs0 : List Int) (a1 : Int) (w : World) (hv0 : ISl w v0 zs0) : Calls Try.prog 7 #[v0, .int .i64 a1] w (Rt (.bool true) w) := by
  have hv0' := hv0
  obtain ⟨p0, cap0, rfl, _⟩ := hv0'
  by_cases hl0 : zs0.length ≤ 1048576
  · have ml0 : zs0.length ≤ maxLen := by unfold maxLen; omega
    go_enter Try.func7, Try.ntmps7
    go_wp2_with fail
    have hB0 : Below w.heap.size w w := Below.refl _ _
    refine (toIntS_c _ zs0 _ (hv0.below hB0) hl0).mono ?_
    rintro e w1 ⟨g1, rfl, ho1, hb1⟩
    have hB1 := hB0.trans (hb1.mono hB0.size)
    have s0 := ho1.sl hl0 ml0
    clear ho1
    clear hB0 hb1
    go_wp2_with fail
    refine (spec_FewestBars_s s0).mono ?_
    rintro e w2 ⟨rfl, hb2⟩
    have hB2 := hB1.trans (hb2.mono hB1.size)
    replace s0 := s0.below hb2
    clear hB1 hb2
    go_wp2_with fail
    clear s0
    refine (toIntS_c _ zs0 _ (hv0.below hB2) hl0).mono ?_
    rintro e w3 ⟨g3, rfl, ho3, hb3⟩
    have hB3 := hB2.trans (hb3.mono hB2.size)
    have s0 := ho3.sl hl0 ml0
    clear ho3
    clear hB2 hb3
    go_wp2_with fail
    refine (impl_FewestBars_s s0).mono ?_
    rintro e w4 ⟨rfl, hb4⟩
    have hB4 := hB3.trans (hb4.mono hB3.size)
    replace s0 := s0.below hb4
    clear hB3 hb4
    go_wp2_with fail
    refine (toIntS_c _ zs0 _ (hv0.below hB4) hl0).mono ?_
    rintro e w5 ⟨g5, rfl, ho5, hb5⟩
    have hB5 := hB4.trans (hb5.mono hB4.size)
    replace s0 := s0.below hb5
    have t0 := ho5.sl hl0 ml0
    clear ho5
    clear hB4 hb5
    go_wp2_with fail
    refine (rd_rt (eqIntS_c _ _ zs0 zs0 _ s0.isl t0.isl hl0 hl0)).mono ?_
    rintro e w6 ⟨rfl, hb6⟩
    have hB6 := hB5.trans (hb6.mono hB5.size)
    replace s0 := s0.below hb6
    replace t0 := t0.below hb6
    clear hB5 hb6
    go_wp2
    go_ret
    exact ⟨rfl, hB6⟩
  · have hl0' : (1048576 : Int) < (zs0.length : Int) := by omega
    go_enter Try.func7, Try.ntmps7
    go_wp2
    all_goals (go_ret; exact ⟨rfl, Below.refl _ _⟩)
end Go.Proofs.Ytimfabpigpcjhaa
