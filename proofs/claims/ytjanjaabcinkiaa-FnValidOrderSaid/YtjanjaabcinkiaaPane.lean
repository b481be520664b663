/- What the functions on panes do (spec and impl), for every argument; no statement is proved here. -/
import Derived.Test.YtjanjaabcinkiaaBase
namespace Go.Proofs.Ytjanjaabcinkiaa
open Go.ChangeShapes Go.WideShapes Go.ChangeAt Go.RowKit
set_option linter.unusedVariables false
set_option linter.unusedSimpArgs false

def vPane (b h k : Int) : Bool := decide (1 ≤ b ∧ b ≤ 200 ∧ 1 ≤ h ∧ h ≤ 200 ∧ 0 ≤ k ∧ k ≤ 9)
theorem vPane_bd {b h k : Int} (e : vPane b h k = true) : 1 ≤ b ∧ b ≤ 200 ∧ 1 ≤ h ∧ h ≤ 200 ∧ 0 ≤ k ∧ k ≤ 9 := by simpa [vPane] using e
theorem toPane_c (b h : Int) (t : Bool) (k : Int) (w : World) : Calls Try.prog 88 #[(.agg #[.int .i64 b, .int .i64 h, .bool t, .int .i64 k])] w (Rt (.agg #[.int .i64 b, .int .i64 h, .bool t, .int .i64 k]) w) := by
  go_enter Try.func88, Try.ntmps88
  go_wp2
  refine bodyPost_ret (v := (.agg #[.int .i64 b, .int .i64 h, .bool t, .int .i64 k])) (by simp [results, Try.results88, go_sem, *]) rfl ⟨?_, ?_⟩
  · rfl
  · (repeat' (first | exact Below.refl _ _ | refine Below.alloc ?_ ?_ _ | refine Below.setCell ?_ ?_ _ | refine Below.drew ?_ | refine below_drewN ?_ _ | refine Below.trans ?_ (Below.mono (by assumption) ?_))) <;> (try first | omega | (simp; done) | (simp at *; omega))
theorem toPane_x (b h : Int) (t : Bool) (k : Int) (w : World) : Calls Try.prog 88 #[(.agg #[.int .i64 b, .int .i64 h, .bool t, .int .i64 k])] w fun e w' => e = .returned (.agg #[.int .i64 b, .int .i64 h, .bool t, .int .i64 k]) ∧ w' = ((w.alloc (.cells #[(.int .i64 b), (.int .i64 h), .bool t, (.int .i64 k)] 93)).alloc (.cells #[(.int .i64 b), (.int .i64 h), .bool t, (.int .i64 k)] 87)).alloc (.cells #[(.int .i64 b), (.int .i64 h), .bool t, (.int .i64 k)] 87) := by
  go_enter Try.func88, Try.ntmps88
  go_wp2
  refine bodyPost_ret (v := (.agg #[.int .i64 b, .int .i64 h, .bool t, .int .i64 k])) (by simp [results, Try.results88, go_sem, *]) rfl ⟨?_, ?_⟩
  · rfl
  · rfl
theorem impl_ValidPane_c (b h : Int) (t : Bool) (k : Int) (w : World) : Calls Try.prog 61 #[(.agg #[.int .i64 b, .int .i64 h, .bool t, .int .i64 k])] w (Rt (.bool (vPane b h k)) w) := by
  go_enter Try.func61, Try.ntmps61
  go_wp2
  all_goals (go_ret; refine ⟨ret_bool ?_, Below.alloc (Below.refl _ _) (Nat.le_refl _) _⟩)
  all_goals (rw [Bool.eq_iff_iff]; simp only [vPane, decide_eq_true_eq, true_iff, iff_true, Bool.false_eq_true, false_iff, iff_false, Bool.and_eq_true, Bool.or_eq_true]; omega)
theorem spec_validPane_c (b h : Int) (t : Bool) (k : Int) (w : World) : Calls Try.prog 90 #[(.agg #[.int .i64 b, .int .i64 h, .bool t, .int .i64 k])] w (Rt (.bool (vPane b h k)) w) := by
  go_enter Try.func90, Try.ntmps90
  go_wp2
  all_goals (go_ret; refine ⟨ret_bool ?_, Below.alloc (Below.refl _ _) (Nat.le_refl _) _⟩)
  all_goals (rw [Bool.eq_iff_iff]; simp only [vPane, decide_eq_true_eq, true_iff, iff_true, Bool.false_eq_true, false_iff, iff_false, Bool.and_eq_true, Bool.or_eq_true]; omega)
end Go.Proofs.Ytjanjaabcinkiaa
