/- goodBars and GoodBars (spec and impl), and the law's walk; no statement is proved here. -/
import Derived.Test.YtglglgfiifjejaaBars2
namespace Go.Proofs.Ytglglgfiifjejaa
open Go.ChangeShapes Go.WideShapes Go.ChangeAt Go.RowKit
set_option linter.unusedVariables false
set_option linter.unusedSimpArgs false

/-- numbers of bars in 0..m-1 -/
def okIx (bs : List Int) (m k : Nat) : Prop := ∀ i, i < k → 0 ≤ el bs i ∧ el bs i < m
instance (bs : List Int) (m k : Nat) : Decidable (okIx bs m k) := by unfold okIx; infer_instance
/-- each of the first k bars has something, and not too much -/
def okLd (zs bs : List Int) (n : Nat) (bar : Int) (k : Nat) : Prop := ∀ j, j < k → 1 ≤ ldF zs bs n j ∧ ldF zs bs n j ≤ bar
instance (zs bs : List Int) (n : Nat) (bar : Int) (k : Nat) : Decidable (okLd zs bs n bar k) := by unfold okLd; infer_instance
@[irreducible] def gBars (zs bs : List Int) (bar : Int) : Bool := decide (vBar zs bar 20 = true ∧ bs.length = zs.length ∧ okIx bs zs.length bs.length ∧ okLd zs bs zs.length bar (tpF bs zs.length))
theorem gBars_iff {zs bs : List Int} {bar : Int} : gBars zs bs bar = true ↔ vBar zs bar 20 = true ∧ bs.length = zs.length ∧ okIx bs zs.length bs.length ∧ okLd zs bs zs.length bar (tpF bs zs.length) := by unfold gBars; simp
theorem gBars_no {zs bs : List Int} {bar : Int} (h : ¬ (vBar zs bar 20 = true ∧ bs.length = zs.length ∧ okIx bs zs.length bs.length ∧ okLd zs bs zs.length bar (tpF bs zs.length))) : gBars zs bs bar = false := by
  cases hg : gBars zs bs bar
  · rfl
  · exact absurd (gBars_iff.1 hg) h
theorem okIx_succ {bs : List Int} {m k : Nat} (h : okIx bs m k) (h1 : 0 ≤ el bs k ∧ el bs k < m) : okIx bs m (k + 1) := fun i hi => by
  by_cases e : i = k
  · subst e; exact h1
  · exact h i (by omega)
theorem okLd_succ {zs bs : List Int} {n : Nat} {bar : Int} {k : Nat} (h : okLd zs bs n bar k) (h1 : 1 ≤ ldF zs bs n k ∧ ldF zs bs n k ≤ bar) : okLd zs bs n bar (k + 1) := fun i hi => by
  by_cases e : i = k
  · subst e; exact h1
  · exact h i (by omega)
set_option maxHeartbeats 1000000 in
theorem spec_goodBars_s {b off n cap b' off' n' cap' : Nat} {zs bs : List Int} {bar : Int} {w : World} (h : Sl w b off n cap zs) (h' : Sl w b' off' n' cap' bs) (hv : vBar zs bar 20 = true) :
    Calls Try.prog 77 #[.slice (some ⟨b, off, none⟩) n cap, (.int .i64 bar), .slice (some ⟨b', off', none⟩) n' cap'] w (Rt (.bool (gBars zs bs bar)) w) := by
  have hs := h.small
  have hs' := h'.small
  have HN := mkhid h.len
  have HM := mkhid h'.len
  obtain ⟨⟨v1, v2, v3⟩, vb⟩ := vBar_iff.1 hv
  rw [HN.out] at v3 vb
  have hn20 : n ≤ 20 := by omega
  have HV := mkhid hv
  have HVB := mkhid vb
  clear hv vb
  go_enter Try.func77, Try.ntmps77
  go_wp2_with fail
  go_loop [7] (fun i => ∃ k : Nat, k ≤ n' ∧ i = .int .i64 k ∧ Hid (okIx bs n k)) (fun i => n' - (intOf i).toNat)
  case atStart => exact ⟨0, Nat.zero_le _, rfl, fun i hi => by omega⟩
  case round =>
    obtain ⟨k, hk, rfl, HB⟩ := hrel
    by_cases hlt : k < n'
    · have hcell := h'.cell hlt
      by_cases h1 : 0 ≤ el bs k ∧ el bs k ≤ (n : Int) - 1
      · have hin := inR_yes h1
        have hok := mkhid (okIx_succ HB.out ⟨h1.1, by omega⟩)
        clear h1
        go_wp2_with (go_at_call 73; refine (inRange_c _ _ _ _).mono ?_; rintro e w1 ⟨rfl, rfl⟩)
        go_round
        case rel => exact ⟨k + 1, by omega, by go_num, hok⟩
        case measure => simp [intOf]; omega
      · have hin := inR_no h1
        have hg : Hid (gBars zs bs bar = false) := gBars_no (fun hh => h1 (by
          have := hh.2.2.1 k (by rw [HM.out]; exact hlt)
          rw [HN.out] at this; omega))
        clear h1
        go_wp2_with (go_at_call 73; refine (inRange_c _ _ _ _).mono ?_; rintro e w1 ⟨rfl, rfl⟩)
        go_ret
        exact ⟨ret_bool hg.out.symm, Below.refl _ _⟩
    · have hkn := mkhid (show k = n' by omega)
      have HX := mkhid (hkn.out ▸ HB.out)
      clear HB
      by_cases he : n' = n
      · subst he
        have e0 : ((n' : Int) != (n' : Int)) = false := by simp
        have hld := spec_loads_s h h' hn20 (fun i hi => by have := HVB.out i hi; omega) HX.out
        go_wp2_with (go_at_call 101; refine hld.mono ?_; rintro e w1 ⟨g1, c1, rfl, ho, hb⟩)
        have hT := tpF_le (bs := bs) (n := n') (m := n') (fun i hi => (HX.out i hi).2) n' (Nat.le_refl _) (by omega)
        obtain ⟨T, hTe⟩ : ∃ T, T = tpF bs n' := ⟨_, rfl⟩
        rw [← hTe] at ho hT ⊢
        have HT := mkhid hTe
        clear hTe hld
        go_loop [9] (fun i => ∃ j : Nat, j ≤ T ∧ i = .int .i64 j ∧ Hid (okLd zs bs n' bar j)) (fun i => T - (intOf i).toNat)
        case atStart => exact ⟨0, Nat.zero_le _, rfl, fun i hi => by omega⟩
        case round =>
          obtain ⟨j, hj, rfl, HJ⟩ := hrel
          by_cases hjt : j < T
          · have ef := (own_facts ho j).1 hjt
            rw [rowL_el hjt] at ef
            by_cases h1 : 1 ≤ ldF zs bs n' j ∧ ldF zs bs n' j ≤ bar
            · have hin := inR_yes h1
              have hok := mkhid (okLd_succ HJ.out h1)
              clear h1
              go_wp2_with (go_at_call 73; refine (inRange_c _ _ _ _).mono ?_; rintro e w1 ⟨rfl, rfl⟩)
              go_round
              case rel => exact ⟨j + 1, by omega, by go_num, hok⟩
              case measure => simp [intOf]; omega
            · have hin := inR_no h1
              have hg : Hid (gBars zs bs bar = false) := gBars_no (fun hh => h1 (by
                have := hh.2.2.2
                rw [HN.out, ← HT.out] at this
                exact this j hjt))
              clear h1
              go_wp2_with (go_at_call 73; refine (inRange_c _ _ _ _).mono ?_; rintro e w1 ⟨rfl, rfl⟩)
              go_ret
              exact ⟨ret_bool hg.out.symm, hb⟩
          · have hg : Hid (gBars zs bs bar = true) := gBars_iff.2 ⟨HV.out, HM.out.trans HN.out.symm, by rw [HN.out, HM.out]; exact HX.out, by
              rw [HN.out, ← HT.out]
              have : j = T := by omega
              exact this ▸ HJ.out⟩
            go_wp2
            go_ret
            exact ⟨ret_bool hg.out.symm, hb⟩
      · have e0 : ((n' : Int) != (n : Int)) = true := by simp; omega
        have hg : Hid (gBars zs bs bar = false) := gBars_no (fun hh => he (by have := hh.2.1; rw [HN.out, HM.out] at this; exact this))
        go_wp2
        go_ret
        exact ⟨ret_bool hg.out.symm, Below.refl _ _⟩
theorem spec_GoodBars_s {b off n cap b' off' n' cap' : Nat} {zs bs : List Int} {bar : Int} {w : World} (h : Sl w b off n cap zs) (h' : Sl w b' off' n' cap' bs) :
    Calls Try.prog 37 #[.slice (some ⟨b, off, none⟩) n cap, (.int .i64 bar), .slice (some ⟨b', off', none⟩) n' cap'] w (Rt (.bool (gBars zs bs bar)) w) := by
  have C1 := spec_validBars_s (bar := bar) h
  cases hv : vBar zs bar 20
  · have hg : Hid (gBars zs bs bar = false) := gBars_no (fun hh => by rw [hv] at hh; exact absurd hh.1 (by simp))
    rw [hv] at C1
    clear hv
    go_enter Try.func37, Try.ntmps37
    go_wp2_with (go_at_call 76; refine C1.mono ?_; rintro e w1 ⟨rfl, rfl⟩)
    go_ret
    exact ⟨ret_bool hg.out.symm, Below.refl _ _⟩
  · have C2 := spec_goodBars_s h h' hv
    rw [hv] at C1
    clear hv
    go_enter Try.func37, Try.ntmps37
    go_wp2_with (first | (go_at_call 76; refine C1.mono ?_; rintro e w1 ⟨rfl, rfl⟩) | (go_at_call 77; refine C2.mono ?_; rintro e w1 ⟨rfl, hb⟩))
    go_ret
    exact ⟨rfl, hb⟩
end Go.Proofs.Ytglglgfiifjejaa
