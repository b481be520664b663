/- validBars (spec), barLengths (impl); no statement is proved here. -/
import Derived.Test.YtimfabpigpcjhaaTurn
namespace Go.Proofs.Ytimfabpigpcjhaa
open Go.ChangeShapes Go.WideShapes Go.ChangeAt Go.RowKit
set_option linter.unusedVariables false
set_option linter.unusedSimpArgs false

/-- lengths in 1..bar -/
def okBar (zs : List Int) (bar : Int) (k : Nat) : Prop := ∀ i, i < k → 1 ≤ el zs i ∧ el zs i ≤ bar
instance (zs : List Int) (bar : Int) (k : Nat) : Decidable (okBar zs bar k) := by unfold okBar; infer_instance
/-- at most mx lengths in 1..bar, bar in 1..200 -/
@[irreducible] def vBar (zs : List Int) (bar mx : Int) : Bool := decide (1 ≤ bar ∧ bar ≤ 200 ∧ (zs.length : Int) ≤ mx) && decide (okBar zs bar zs.length)
theorem okBar_succ {zs : List Int} {bar : Int} {k : Nat} (h : okBar zs bar k) (h1 : 1 ≤ el zs k ∧ el zs k ≤ bar) : okBar zs bar (k + 1) := fun i hi => by
  by_cases e : i = k
  · subst e; exact h1
  · exact h i (by omega)
theorem vBar_iff {zs : List Int} {bar mx : Int} : vBar zs bar mx = true ↔ (1 ≤ bar ∧ bar ≤ 200 ∧ (zs.length : Int) ≤ mx) ∧ okBar zs bar zs.length := by unfold vBar; simp
theorem vBar_no {zs : List Int} {bar mx : Int} {k : Nat} (hk : k < zs.length) (h : ¬ (1 ≤ el zs k ∧ el zs k ≤ bar)) : vBar zs bar mx = false := by
  unfold vBar
  rw [decide_eq_false (p := okBar zs bar zs.length) (fun h2 => h (h2 k hk))]
  simp
theorem spec_validBars_s {b off n cap : Nat} {zs : List Int} {bar : Int} {w : World} (h : Sl w b off n cap zs) :
    Calls Try.prog 58 #[.slice (some ⟨b, off, none⟩) n cap, (.int .i64 bar)] w (Rs (.bool (vBar zs bar 20)) w) := by
  have hs := h.small
  have HN : Hid (zs.length = n) := h.len
  go_enter Try.func58, Try.ntmps58
  go_wp2_with fail
  go_loop [5] (fun i => ∃ k : Nat, k ≤ n ∧ i = .int .i64 k ∧ Hid (okBar zs bar k)) (fun i => n - (intOf i).toNat)
  case atStart => exact ⟨0, Nat.zero_le _, rfl, fun i hi => by omega⟩
  case round =>
    obtain ⟨k, hk, rfl, HB⟩ := hrel
    by_cases hlt : k < n
    · have hcell := h.cell hlt
      by_cases h1 : 1 ≤ el zs k ∧ el zs k ≤ bar
      · have hin := inR_yes h1
        have hok := mkhid (okBar_succ HB.out h1)
        clear h1
        go_wp2_with (go_at_call 48; refine (inRange_c _ _ _ _).mono ?_; rintro e w1 ⟨rfl, rfl⟩)
        go_round
        case rel => exact ⟨k + 1, by omega, by go_num, hok⟩
        case measure => simp [intOf]; omega
      · have hin := inR_no h1
        have hv : Hid (vBar zs bar 20 = false) := vBar_no (by rw [HN.out]; exact hlt) h1
        clear h1
        go_wp2_with (go_at_call 48; refine (inRange_c _ _ _ _).mono ?_; rintro e w1 ⟨rfl, rfl⟩)
        go_ret
        exact ⟨ret_bool hv.out.symm, rfl⟩
    · have hkn := mkhid (show k = n by omega)
      have hbz := mkhid (show okBar zs bar zs.length by rw [HN.out, ← hkn.out]; exact HB.out)
      by_cases h1 : 1 ≤ bar ∧ bar ≤ 200
      · have hin := inR_yes h1
        have hv : Hid (vBar zs bar 20 = decide ((n : Int) ≤ 20)) := by
          show _ = _
          unfold vBar
          rw [decide_eq_true hbz.out, HN.out, Bool.and_true]
          exact decide_eq_decide.2 (by omega)
        clear h1
        go_wp2_with (go_at_call 48; refine (inRange_c _ _ _ _).mono ?_; rintro e w1 ⟨rfl, rfl⟩)
        go_ret
        exact ⟨ret_bool hv.out.symm, rfl⟩
      · have hin := inR_no h1
        have hv : Hid (vBar zs bar 20 = false) := by
          show _ = _
          cases hh : vBar zs bar 20
          · rfl
          · have := (vBar_iff.1 hh).1; exact absurd ⟨this.1, this.2.1⟩ h1
        clear h1
        go_wp2_with (go_at_call 48; refine (inRange_c _ _ _ _).mono ?_; rintro e w1 ⟨rfl, rfl⟩)
        go_ret
        exact ⟨ret_bool hv.out.symm, rfl⟩
theorem impl_barLengths_s {b off n cap : Nat} {zs : List Int} {bar mx : Int} {w : World} (h : Sl w b off n cap zs) :
    Calls Try.prog 60 #[.slice (some ⟨b, off, none⟩) n cap, (.int .i64 bar), (.int .i64 mx)] w (Rs (.bool (vBar zs bar mx)) w) := by
  have hs := h.small
  have HN : Hid (zs.length = n) := h.len
  have hno : ¬ (1 ≤ bar ∧ bar ≤ 200 ∧ (n : Int) ≤ mx) → Hid (vBar zs bar mx = false) := fun hh => by
    show _ = _
    cases hv : vBar zs bar mx
    · rfl
    · have := (vBar_iff.1 hv).1
      rw [HN.out] at this
      exact absurd this hh
  by_cases h1 : 1 ≤ bar
  · have d1 : decide (bar < 1) = false := decide_eq_false (by omega)
    by_cases h2 : bar ≤ 200
    · have d2 : decide (200 < bar) = false := decide_eq_false (by omega)
      by_cases h3 : (n : Int) ≤ mx
      · have d3 : decide (mx < (n : Int)) = false := decide_eq_false (by omega)
        have HY := mkhid (show 1 ≤ bar ∧ bar ≤ 200 ∧ (n : Int) ≤ mx from ⟨h1, h2, h3⟩)
        clear hno h1 h2 h3
        go_enter Try.func60, Try.ntmps60
        go_wp2_with fail
        go_loop [8, 23] (fun _ i => ∃ k : Nat, k ≤ n ∧ i = .int .i64 k ∧ Hid (okBar zs bar k)) (fun _ i => n - (intOf i).toNat)
        case atStart => exact ⟨0, Nat.zero_le _, rfl, fun i hi => by omega⟩
        case round =>
          obtain ⟨k, hk, rfl, HB⟩ := hrel
          by_cases hlt : k < n
          · have hcell := h.cell hlt
            by_cases e1 : 1 ≤ el zs k
            · have f1 : decide (el zs k < 1) = false := decide_eq_false (by omega)
              by_cases e2 : el zs k ≤ bar
              · have f2 : decide (bar < el zs k) = false := decide_eq_false (by omega)
                have hok := mkhid (okBar_succ HB.out ⟨e1, e2⟩)
                clear e1 e2
                go_wp2
                go_round
                case rel => exact ⟨k + 1, by omega, by go_num, hok⟩
                case measure => simp [intOf]; omega
              · have f2 : decide (bar < el zs k) = true := decide_eq_true (by omega)
                have hv : Hid (vBar zs bar mx = false) := vBar_no (by rw [HN.out]; exact hlt) (fun hh => e2 hh.2)
                clear e1 e2
                go_wp2
                go_ret
                exact ⟨ret_bool hv.out.symm, rfl⟩
            · have f1 : decide (el zs k < 1) = true := decide_eq_true (by omega)
              have hv : Hid (vBar zs bar mx = false) := vBar_no (by rw [HN.out]; exact hlt) (fun hh => e1 hh.1)
              clear e1
              go_wp2
              go_ret
              exact ⟨ret_bool hv.out.symm, rfl⟩
          · have hkn := mkhid (show k = n by omega)
            have hv : Hid (vBar zs bar mx = true) := vBar_iff.2 ⟨by rw [HN.out]; exact HY.out, by rw [HN.out, ← hkn.out]; exact HB.out⟩
            go_wp2
            go_ret
            exact ⟨ret_bool hv.out.symm, rfl⟩
      · have d3 : decide (mx < (n : Int)) = true := decide_eq_true (by omega)
        have hv := hno (fun hh => h3 hh.2.2)
        clear hno h1 h2 h3
        go_enter Try.func60, Try.ntmps60
        go_wp2_with fail
        go_ret
        exact ⟨ret_bool hv.out.symm, rfl⟩
    · have d2 : decide (200 < bar) = true := decide_eq_true (by omega)
      have hv := hno (fun hh => h2 hh.2.1)
      clear hno h1 h2
      go_enter Try.func60, Try.ntmps60
      go_wp2_with fail
      go_ret
      exact ⟨ret_bool hv.out.symm, rfl⟩
  · have d1 : decide (bar < 1) = true := decide_eq_true (by omega)
    have hv := hno (fun hh => h1 hh.1)
    clear hno h1
    go_enter Try.func60, Try.ntmps60
    go_wp2_with fail
    go_ret
    exact ⟨ret_bool hv.out.symm, rfl⟩
end Go.Proofs.Ytimfabpigpcjhaa
