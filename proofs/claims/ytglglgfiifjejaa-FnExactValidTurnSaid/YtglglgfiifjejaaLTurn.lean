/- The walk of the law FnExactValidTurn; no statement is proved here. -/
import Derived.Test.YtglglgfiifjejaaTurn
namespace Go.Proofs.Ytglglgfiifjejaa
open Go.ChangeShapes Go.WideShapes Go.ChangeAt Go.RowKit
set_option linter.unusedVariables false
set_option linter.unusedSimpArgs false
theorem FnExactValidTurn_walk (v : Value) (zs : List Int) (w : World) (hv : ISl w v zs) : Calls Try.prog 3 #[v] w (Rt (.bool true) w) := by
  have hv' := hv
  obtain ⟨p, cap, rfl, _⟩ := hv'
  by_cases hl : zs.length ≤ 1048576
  · have ml : zs.length ≤ maxLen := by unfold maxLen; omega
    go_enter Try.func3, Try.ntmps3
    go_wp2_with fail
    refine (toIntS_c _ zs _ hv hl).mono ?_
    rintro e w1 ⟨g1, rfl, ho1, hb1⟩
    go_wp2_with fail
    refine (spec_ValidTurn_c g1 0 zs.length zs.length zs w1 rfl hl (Nat.le_refl _) ml (Own.at ho1).2.2.2.1).mono ?_
    rintro e w2 ⟨rfl, hd2⟩
    have hB2 := hb1.trans (hd2.below.mono hb1.size)
    clear hb1 ho1 hd2
    go_wp2_with fail
    refine (toIntS_c _ zs _ (hv.below hB2) hl).mono ?_
    rintro e w3 ⟨g3, rfl, ho3, hb3⟩
    have hB3 := hB2.trans (hb3.mono hB2.size)
    clear hB2 hb3
    go_wp2_with fail
    refine (impl_ValidTurn_c g3 0 zs.length zs.length zs w3 rfl hl (Own.at ho3).2.2.1 (Own.at ho3).2.2.2.1).mono ?_
    rintro e w4 ⟨rfl, hb4⟩
    have hB4 := hB3.trans (hb4.mono hB3.size)
    have ho4 := ho3.below hb4
    clear hB3 hb4 ho3
    go_wp2_with fail
    refine (toIntS_c _ zs _ (hv.below hB4) hl).mono ?_
    rintro e w5 ⟨g5, rfl, ho5, hb5⟩
    have hB5 := hB4.trans (hb5.mono hB4.size)
    have ho6 := ho4.below hb5
    clear hB4 hb5 ho4
    go_wp2_with fail
    refine (eqIntS_c _ _ zs zs _ ho6.isl ho5.isl hl hl).mono ?_
    rintro e w6 ⟨rfl, hd6⟩
    have hB6 := hB5.trans (hd6.below.mono hB5.size)
    clear hB5 ho5 ho6 hd6
    go_wp2
    go_ret
    exact ⟨rfl, hB6⟩
  · have hl' : (1048576 : Int) < (zs.length : Int) := by omega
    go_enter Try.func3, Try.ntmps3
    go_wp2
    go_ret
    exact ⟨rfl, Below.refl _ _⟩
end Go.Proofs.Ytglglgfiifjejaa
