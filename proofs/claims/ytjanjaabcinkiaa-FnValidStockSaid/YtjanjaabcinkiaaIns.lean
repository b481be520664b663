/- InsideOf (spec and impl); no statement is proved here. -/
import Derived.Test.YtjanjaabcinkiaaBox
namespace Go.Proofs.Ytjanjaabcinkiaa
open Go.ChangeShapes Go.WideShapes Go.ChangeAt Go.RowKit
set_option linter.unusedVariables false
set_option linter.unusedSimpArgs false

def inside (ax ay aw ah bx by' bw bh : Int) : Bool := decide (bx ≤ ax ∧ by' ≤ ay ∧ ax + aw ≤ bx + bw ∧ ay + ah ≤ by' + bh)
def insB (ax ay aw ah bx by' bw bh : Int) : Bool := vBox ax ay aw ah && (vBox bx by' bw bh && inside ax ay aw ah bx by' bw bh)
theorem insB_meets {ax ay aw ah bx by' bw bh : Int} (ha : vBox ax ay aw ah = true) (hb : vBox bx by' bw bh = true) :
    insB ax ay aw ah bx by' bw bh = (meets ax ay aw ah bx by' bw bh && decide (mX ax bx = ax ∧ mX ay by' = ay ∧ mW ax aw bx bw = aw ∧ mW ay ah by' bh = ah)) := by
  obtain ⟨a1, a2, a3, a4, a5, a6, a7, a8⟩ := vBox_bd ha
  obtain ⟨b1, b2, b3, b4, b5, b6, b7, b8⟩ := vBox_bd hb
  rw [Bool.eq_iff_iff]
  simp only [insB, ha, hb, Bool.true_and, inside, meets, Bool.and_eq_true, decide_eq_true_eq, mX_eq, mW_eq]
  omega

theorem meets_bd {ax ay aw ah bx by' bw bh : Int} (hm : meets ax ay aw ah bx by' bw bh = true) : 0 < mW ax aw bx bw ∧ 0 < mW ay ah by' bh := by simpa [meets] using hm
theorem vBox_meet {ax ay aw ah bx by' bw bh : Int} (ha : vBox ax ay aw ah = true) (hb : vBox bx by' bw bh = true) (hm : meets ax ay aw ah bx by' bw bh = true) : vBox (mX ax bx) (mX ay by') (mW ax aw bx bw) (mW ay ah by' bh) = true := by
  have a := vBox_bd ha
  have b := vBox_bd hb
  have m := meets_bd hm
  unfold vBox
  rw [mW_eq, mW_eq] at *
  rw [mX_eq, mX_eq]
  exact decide_eq_true (by omega)
theorem ins_meet1 {ax ay aw ah bx by' bw bh : Int} (ha : vBox ax ay aw ah = true) (hb : vBox bx by' bw bh = true) (hm : meets ax ay aw ah bx by' bw bh = true) : insB (mX ax bx) (mX ay by') (mW ax aw bx bw) (mW ay ah by' bh) ax ay aw ah = true := by
  unfold insB inside
  rw [vBox_meet ha hb hm, ha, Bool.true_and, Bool.true_and]
  have m := meets_bd hm
  rw [mW_eq, mW_eq] at *
  rw [mX_eq, mX_eq]
  exact decide_eq_true (by omega)
theorem ins_meet2 {ax ay aw ah bx by' bw bh : Int} (ha : vBox ax ay aw ah = true) (hb : vBox bx by' bw bh = true) (hm : meets ax ay aw ah bx by' bw bh = true) : insB (mX ax bx) (mX ay by') (mW ax aw bx bw) (mW ay ah by' bh) bx by' bw bh = true := by
  unfold insB inside
  rw [vBox_meet ha hb hm, hb, Bool.true_and, Bool.true_and]
  have m := meets_bd hm
  rw [mW_eq, mW_eq] at *
  rw [mX_eq, mX_eq]
  exact decide_eq_true (by omega)
theorem meetVal_back {ax ay aw ah bx by' bw bh : Int} (ha : vBox ax ay aw ah = true) (hb : vBox bx by' bw bh = true) (hm : meets ax ay aw ah bx by' bw bh = true) :
    meetVal bx by' bw bh ax ay aw ah = .tuple #[(.agg #[.int .i64 (mX ax bx), .int .i64 (mX ay by'), .int .i64 (mW ax aw bx bw), .int .i64 (mW ay ah by' bh)]), .bool true] := by
  have e1 : mX bx ax = mX ax bx := by rw [mX_eq, mX_eq]; omega
  have e2 : mX by' ay = mX ay by' := by rw [mX_eq, mX_eq]; omega
  have e3 : mW bx bw ax aw = mW ax aw bx bw := by rw [mW_eq, mW_eq]; omega
  have e4 : mW by' bh ay ah = mW ay ah by' bh := by rw [mW_eq, mW_eq]; omega
  have hm' : meets bx by' bw bh ax ay aw ah = true := by unfold meets at hm ⊢; rw [e3, e4]; exact hm
  rw [meetVal_yes hb ha hm', e1, e2, e3, e4]
theorem meetVal_self {ax ay aw ah : Int} (ha : vBox ax ay aw ah = true) : meetVal ax ay aw ah ax ay aw ah = .tuple #[(.agg #[.int .i64 ax, .int .i64 ay, .int .i64 aw, .int .i64 ah]), .bool true] := by
  have a := vBox_bd ha
  have e1 : mX ax ax = ax := by rw [mX_eq]; omega
  have e2 : mX ay ay = ay := by rw [mX_eq]; omega
  have e3 : mW ax aw ax aw = aw := by rw [mW_eq]; omega
  have e4 : mW ay ah ay ah = ah := by rw [mW_eq]; omega
  have hm' : meets ax ay aw ah ax ay aw ah = true := by unfold meets; rw [e3, e4]; exact decide_eq_true (by omega)
  rw [meetVal_yes ha ha hm', e1, e2, e3, e4]
theorem impl_InsideOf_c (ax ay aw ah bx by' bw bh : Int) (w : World) : Calls Try.prog 78 #[(.agg #[.int .i64 ax, .int .i64 ay, .int .i64 aw, .int .i64 ah]), (.agg #[.int .i64 bx, .int .i64 by', .int .i64 bw, .int .i64 bh])] w (Rt (.bool (insB ax ay aw ah bx by' bw bh)) w) := by
  by_cases h : (vBox ax ay aw ah && vBox bx by' bw bh && meets ax ay aw ah bx by' bw bh) = true
  · simp only [Bool.and_eq_true] at h
    obtain ⟨⟨ha, hb⟩, hm⟩ := h
    have hv := meetVal_yes ha hb hm
    have hi : insB ax ay aw ah bx by' bw bh = decide (mX ax bx = ax ∧ mX ay by' = ay ∧ mW ax aw bx bw = aw ∧ mW ay ah by' bh = ah) := by rw [insB_meets ha hb, hm]; rfl
    have hi' := Hid.out hi
    have HI : Hid (insB ax ay aw ah bx by' bw bh = decide (mX ax bx = ax ∧ mX ay by' = ay ∧ mW ax aw bx bw = aw ∧ mW ay ah by' bh = ah)) := hi
    clear hi hi' ha hb hm
    go_enter Try.func78, Try.ntmps78
    go_wp2_with (go_at_call 71; refine (impl_MeetOf_c _ _ _ _ _ _ _ _ _).mono ?_; rintro e w1 ⟨rfl, hb1⟩; obtain ⟨hc1, hf1, -, hz1⟩ := bcell hb1; (try simp at hz1); (try (have zw0 : w.heap.size < w1.heap.size := by omega)); (try (have zw1 : w.heap.size + 1 < w1.heap.size := by omega)); (try (have zw2 : w.heap.size + 1 + 1 < w1.heap.size := by omega)); (try (have zw3 : w.heap.size + 1 + 1 + 1 < w1.heap.size := by omega)); (try (have zw4 : w.heap.size + 1 + 1 + 1 + 1 < w1.heap.size := by omega)); (try (have zw5 : w.heap.size + 1 + 1 + 1 + 1 + 1 < w1.heap.size := by omega)))
    all_goals (go_ret; refine ⟨ret_bool ?_, ?_⟩)
    any_goals (rw [HI.out]; simp [*]; done)
    all_goals (repeat' (first | exact Below.refl _ _ | refine Below.alloc ?_ ?_ _ | refine Below.setCell ?_ ?_ _ | refine Below.drew ?_ | refine below_drewN ?_ _ | refine Below.trans ?_ (Below.mono (by assumption) ?_))) <;> (try first | omega | (simp; done) | (simp at *; omega))
  · have h' : (vBox ax ay aw ah && vBox bx by' bw bh && meets ax ay aw ah bx by' bw bh) = false := by simpa using h
    have hv := meetVal_no h'
    have HI : Hid (insB ax ay aw ah bx by' bw bh = false) := by
      show _ = _
      cases ha : vBox ax ay aw ah <;> cases hb : vBox bx by' bw bh
      · simp [insB, ha]
      · simp [insB, ha]
      · simp [insB, hb]
      · rw [insB_meets ha hb]
        have : meets ax ay aw ah bx by' bw bh = false := by simpa [ha, hb] using h'
        rw [this]; rfl
    clear h h'
    go_enter Try.func78, Try.ntmps78
    go_wp2_with (go_at_call 71; refine (impl_MeetOf_c _ _ _ _ _ _ _ _ _).mono ?_; rintro e w1 ⟨rfl, hb1⟩; obtain ⟨hc1, hf1, -, hz1⟩ := bcell hb1; (try simp at hz1); (try (have zw0 : w.heap.size < w1.heap.size := by omega)); (try (have zw1 : w.heap.size + 1 < w1.heap.size := by omega)); (try (have zw2 : w.heap.size + 1 + 1 < w1.heap.size := by omega)); (try (have zw3 : w.heap.size + 1 + 1 + 1 < w1.heap.size := by omega)); (try (have zw4 : w.heap.size + 1 + 1 + 1 + 1 < w1.heap.size := by omega)); (try (have zw5 : w.heap.size + 1 + 1 + 1 + 1 + 1 < w1.heap.size := by omega)))
    go_ret
    refine ⟨ret_bool HI.out.symm, ?_⟩
    (repeat' (first | exact Below.refl _ _ | refine Below.alloc ?_ ?_ _ | refine Below.setCell ?_ ?_ _ | refine Below.drew ?_ | refine below_drewN ?_ _ | refine Below.trans ?_ (Below.mono (by assumption) ?_))) <;> (try first | omega | (simp; done) | (simp at *; omega))
theorem spec_insideOf_c (ax ay aw ah bx by' bw bh : Int) (w : World) (ha : vBox ax ay aw ah = true) (hb : vBox bx by' bw bh = true) : Calls Try.prog 95 #[(.agg #[.int .i64 ax, .int .i64 ay, .int .i64 aw, .int .i64 ah]), (.agg #[.int .i64 bx, .int .i64 by', .int .i64 bw, .int .i64 bh])] w (Rt (.bool (inside ax ay aw ah bx by' bw bh)) w) := by
  obtain ⟨a1, a2, a3, a4, a5, a6, a7, a8⟩ := vBox_bd ha
  obtain ⟨b1, b2, b3, b4, b5, b6, b7, b8⟩ := vBox_bd hb
  clear ha hb
  go_enter Try.func95, Try.ntmps95
  go_wp2
  all_goals (go_ret; refine ⟨ret_bool ?_, ?_⟩)
  any_goals (rw [Bool.eq_iff_iff]; simp only [inside, decide_eq_true_eq, true_iff, iff_true, Bool.false_eq_true, false_iff, iff_false, Bool.and_eq_true, Bool.or_eq_true]; omega)
  all_goals (repeat' (first | exact Below.refl _ _ | refine Below.alloc ?_ ?_ _ | refine Below.setCell ?_ ?_ _ | refine Below.drew ?_ | refine below_drewN ?_ _ | refine Below.trans ?_ (Below.mono (by assumption) ?_))) <;> (try first | omega | (simp; done) | (simp at *; omega))
end Go.Proofs.Ytjanjaabcinkiaa
