/- What the functions on panes do (spec and impl), for every argument; no statement is proved here. -/
import Derived.Test.YtimfabpigpcjhaaBase
namespace Go.Proofs.Ytimfabpigpcjhaa
open Go.ChangeShapes Go.WideShapes Go.ChangeAt Go.RowKit
set_option linter.unusedVariables false
set_option linter.unusedSimpArgs false

def vPane (b h k : Int) : Bool := decide (1 ≤ b ∧ b ≤ 200 ∧ 1 ≤ h ∧ h ≤ 200 ∧ 0 ≤ k ∧ k ≤ 9)
theorem vPane_bd {b h k : Int} (e : vPane b h k = true) : 1 ≤ b ∧ b ≤ 200 ∧ 1 ≤ h ∧ h ≤ 200 ∧ 0 ≤ k ∧ k ≤ 9 := by simpa [vPane] using e
theorem impl_ValidPane_c (b h : Int) (t : Bool) (k : Int) (w : World) : Calls Try.prog 46 #[(.agg #[.int .i64 b, .int .i64 h, .bool t, .int .i64 k])] w (Rt (.bool (vPane b h k)) w) := by
  go_enter Try.func46, Try.ntmps46
  go_wp2
  all_goals (go_ret; refine ⟨ret_bool ?_, Below.alloc (Below.refl _ _) (Nat.le_refl _) _⟩)
  all_goals (rw [Bool.eq_iff_iff]; simp only [vPane, decide_eq_true_eq, true_iff, iff_true, Bool.false_eq_true, false_iff, iff_false, Bool.and_eq_true, Bool.or_eq_true]; omega)
theorem spec_validPane_c (b h : Int) (t : Bool) (k : Int) (w : World) : Calls Try.prog 47 #[(.agg #[.int .i64 b, .int .i64 h, .bool t, .int .i64 k])] w (Rt (.bool (vPane b h k)) w) := by
  go_enter Try.func47, Try.ntmps47
  go_wp2
  all_goals (go_ret; refine ⟨ret_bool ?_, Below.alloc (Below.refl _ _) (Nat.le_refl _) _⟩)
  all_goals (rw [Bool.eq_iff_iff]; simp only [vPane, decide_eq_true_eq, true_iff, iff_true, Bool.false_eq_true, false_iff, iff_false, Bool.and_eq_true, Bool.or_eq_true]; omega)
def waysN (pw ph : Int) (t : Bool) (w h : Int) : Int := (if pw ≤ w ∧ ph ≤ h then 1 else 0) + (if t = true ∧ pw ≠ ph ∧ ph ≤ w ∧ pw ≤ h then 1 else 0)
@[irreducible] def waysI (pw ph : Int) (t : Bool) (k : Int) (w h : Int) : Int := if vPane pw ph k = true ∧ 0 ≤ w ∧ w ≤ 200 ∧ 0 ≤ h ∧ h ≤ 200 then waysN pw ph t w h else -1
theorem waysI_no {pw ph : Int} {t : Bool} {k w h : Int} (hn : vPane pw ph k = false ∨ w < 0 ∨ 200 < w ∨ h < 0 ∨ 200 < h) : waysI pw ph t k w h = -1 := by
  unfold waysI
  rw [if_neg]
  rintro ⟨h1, h2⟩
  rcases hn with hn | hn
  · rw [h1] at hn; cases hn
  · omega
theorem waysI_yes {pw ph : Int} {t : Bool} {k w h : Int} (h1 : vPane pw ph k = true) (h2 : 0 ≤ w ∧ w ≤ 200 ∧ 0 ≤ h ∧ h ≤ 200) : waysI pw ph t k w h = waysN pw ph t w h := by
  unfold waysI
  rw [if_pos ⟨h1, h2⟩]
set_option maxHeartbeats 1000000 in
theorem impl_WaysIn_c (pw ph : Int) (t : Bool) (k b h : Int) (w : World) : Calls Try.prog 15 #[(.agg #[.int .i64 pw, .int .i64 ph, .bool t, .int .i64 k]), (.int .i64 b), (.int .i64 h)] w (Rt (.int .i64 (waysI pw ph t k b h)) w) := by
  cases hv : vPane pw ph k
  · have HI : Hid (waysI pw ph t k b h = -1) := waysI_no (.inl hv)
    go_enter Try.func15, Try.ntmps15
    go_wp2_with (go_at_call 46; refine (impl_ValidPane_c _ _ _ _ _).mono ?_; rintro e w1 ⟨rfl, hb1⟩; obtain ⟨hc1, hf1, -, hz1⟩ := bcell hb1; (try simp at hz1); (try (have zw0 : w.heap.size < w1.heap.size := by omega)); (try (have zw1 : w.heap.size + 1 < w1.heap.size := by omega)); (try (have zw2 : w.heap.size + 1 + 1 < w1.heap.size := by omega)); (try (have zw3 : w.heap.size + 1 + 1 + 1 < w1.heap.size := by omega)); (try (have zw4 : w.heap.size + 1 + 1 + 1 + 1 < w1.heap.size := by omega)); (try (have zw5 : w.heap.size + 1 + 1 + 1 + 1 + 1 < w1.heap.size := by omega)))
    go_ret
    refine ⟨ret_int HI.out.symm, ?_⟩
    (repeat' (first | exact Below.refl _ _ | refine Below.alloc ?_ ?_ _ | refine Below.setCell ?_ ?_ _ | refine Below.drew ?_ | refine below_drewN ?_ _ | refine Below.trans ?_ (Below.mono (by assumption) ?_))) <;> (try first | omega | (simp; done) | (simp at *; omega))
  · by_cases hr : 0 ≤ b ∧ b ≤ 200 ∧ 0 ≤ h ∧ h ≤ 200
    · have HI : Hid (waysI pw ph t k b h = waysN pw ph t b h) := waysI_yes hv hr
      cases t
      all_goals
        go_enter Try.func15, Try.ntmps15
        go_wp2_with (go_at_call 46; refine (impl_ValidPane_c _ _ _ _ _).mono ?_; rintro e w1 ⟨rfl, hb1⟩; obtain ⟨hc1, hf1, -, hz1⟩ := bcell hb1; (try simp at hz1); (try (have zw0 : w.heap.size < w1.heap.size := by omega)); (try (have zw1 : w.heap.size + 1 < w1.heap.size := by omega)); (try (have zw2 : w.heap.size + 1 + 1 < w1.heap.size := by omega)); (try (have zw3 : w.heap.size + 1 + 1 + 1 < w1.heap.size := by omega)); (try (have zw4 : w.heap.size + 1 + 1 + 1 + 1 < w1.heap.size := by omega)); (try (have zw5 : w.heap.size + 1 + 1 + 1 + 1 + 1 < w1.heap.size := by omega)))
      all_goals (go_ret; refine ⟨ret_int ?_, ?_⟩)
      any_goals ((first | rw [HI.out] | (subst_vars; rw [HI.out])); simp only [waysN, bne_iff_ne, ne_eq, bne_eq_false_iff_eq, Bool.false_eq_true, false_and, if_false, true_and] at *; (repeat' split) <;> omega)
      all_goals (repeat' (first | exact Below.refl _ _ | refine Below.alloc ?_ ?_ _ | refine Below.setCell ?_ ?_ _ | refine Below.drew ?_ | refine below_drewN ?_ _ | refine Below.trans ?_ (Below.mono (by assumption) ?_))) <;> (try first | omega | (simp; done) | (simp at *; omega))
    · have HI : Hid (waysI pw ph t k b h = -1) := waysI_no (.inr (by omega))
      go_enter Try.func15, Try.ntmps15
      go_wp2_with (go_at_call 46; refine (impl_ValidPane_c _ _ _ _ _).mono ?_; rintro e w1 ⟨rfl, hb1⟩; obtain ⟨hc1, hf1, -, hz1⟩ := bcell hb1; (try simp at hz1); (try (have zw0 : w.heap.size < w1.heap.size := by omega)); (try (have zw1 : w.heap.size + 1 < w1.heap.size := by omega)); (try (have zw2 : w.heap.size + 1 + 1 < w1.heap.size := by omega)); (try (have zw3 : w.heap.size + 1 + 1 + 1 < w1.heap.size := by omega)); (try (have zw4 : w.heap.size + 1 + 1 + 1 + 1 < w1.heap.size := by omega)); (try (have zw5 : w.heap.size + 1 + 1 + 1 + 1 + 1 < w1.heap.size := by omega)))
      all_goals (first | (exfalso; omega) | skip)
      all_goals (go_ret; refine ⟨ret_int HI.out.symm, ?_⟩)
      all_goals (repeat' (first | exact Below.refl _ _ | refine Below.alloc ?_ ?_ _ | refine Below.setCell ?_ ?_ _ | refine Below.drew ?_ | refine below_drewN ?_ _ | refine Below.trans ?_ (Below.mono (by assumption) ?_))) <;> (try first | omega | (simp; done) | (simp at *; omega))
theorem spec_waysIn_c (pw ph : Int) (t : Bool) (k b h : Int) (w : World) : Calls Try.prog 49 #[(.agg #[.int .i64 pw, .int .i64 ph, .bool t, .int .i64 k]), (.int .i64 b), (.int .i64 h)] w (Rt (.int .i64 (waysN pw ph t b h)) w) := by
  cases t
  all_goals
    go_enter Try.func49, Try.ntmps49
    go_wp2
  all_goals (go_ret; refine ⟨ret_int ?_, ?_⟩)
  any_goals (simp only [waysN, bne_iff_ne, ne_eq, bne_eq_false_iff_eq, Bool.false_eq_true, false_and, if_false, true_and] at *; (repeat' split) <;> omega)
  all_goals (repeat' (first | exact Below.refl _ _ | refine Below.alloc ?_ ?_ _ | refine Below.setCell ?_ ?_ _ | refine Below.drew ?_ | refine below_drewN ?_ _ | refine Below.trans ?_ (Below.mono (by assumption) ?_))) <;> (try first | omega | (simp; done) | (simp at *; omega))
theorem spec_WaysIn_c (pw ph : Int) (t : Bool) (k b h : Int) (w : World) : Calls Try.prog 16 #[(.agg #[.int .i64 pw, .int .i64 ph, .bool t, .int .i64 k]), (.int .i64 b), (.int .i64 h)] w (Rt (.int .i64 (waysI pw ph t k b h)) w) := by
  cases hv : vPane pw ph k
  · have HI : Hid (waysI pw ph t k b h = -1) := waysI_no (.inl hv)
    go_enter Try.func16, Try.ntmps16
    go_wp2_with (go_at_call 47; refine (spec_validPane_c _ _ _ _ _).mono ?_; rintro e w1 ⟨rfl, hb1⟩; obtain ⟨hc1, hf1, -, hz1⟩ := bcell hb1; (try simp at hz1); (try (have zw0 : w.heap.size < w1.heap.size := by omega)); (try (have zw1 : w.heap.size + 1 < w1.heap.size := by omega)); (try (have zw2 : w.heap.size + 1 + 1 < w1.heap.size := by omega)); (try (have zw3 : w.heap.size + 1 + 1 + 1 < w1.heap.size := by omega)); (try (have zw4 : w.heap.size + 1 + 1 + 1 + 1 < w1.heap.size := by omega)); (try (have zw5 : w.heap.size + 1 + 1 + 1 + 1 + 1 < w1.heap.size := by omega)))
    go_ret
    refine ⟨ret_int HI.out.symm, ?_⟩
    (repeat' (first | exact Below.refl _ _ | refine Below.alloc ?_ ?_ _ | refine Below.setCell ?_ ?_ _ | refine Below.drew ?_ | refine below_drewN ?_ _ | refine Below.trans ?_ (Below.mono (by assumption) ?_))) <;> (try first | omega | (simp; done) | (simp at *; omega))
  · by_cases hr : 0 ≤ b ∧ b ≤ 200 ∧ 0 ≤ h ∧ h ≤ 200
    · have HI : Hid (waysI pw ph t k b h = waysN pw ph t b h) := waysI_yes hv hr
      go_enter Try.func16, Try.ntmps16
      go_wp2_with (first | (go_at_call 47; refine (spec_validPane_c _ _ _ _ _).mono ?_; rintro e w1 ⟨rfl, hb1⟩; obtain ⟨hc1, hf1, -, hz1⟩ := bcell hb1; (try simp at hz1); (try (have zw0 : w.heap.size < w1.heap.size := by omega)); (try (have zw1 : w.heap.size + 1 < w1.heap.size := by omega)); (try (have zw2 : w.heap.size + 1 + 1 < w1.heap.size := by omega)); (try (have zw3 : w.heap.size + 1 + 1 + 1 < w1.heap.size := by omega)); (try (have zw4 : w.heap.size + 1 + 1 + 1 + 1 < w1.heap.size := by omega)); (try (have zw5 : w.heap.size + 1 + 1 + 1 + 1 + 1 < w1.heap.size := by omega))) | (go_at_call 49; refine (spec_waysIn_c _ _ _ _ _ _ _).mono ?_; rintro e w1 ⟨rfl, hb1⟩; obtain ⟨hc1, hf1, -, hz1⟩ := bcell hb1; (try simp at hz1); (try (have zw0 : w.heap.size < w1.heap.size := by omega)); (try (have zw1 : w.heap.size + 1 < w1.heap.size := by omega)); (try (have zw2 : w.heap.size + 1 + 1 < w1.heap.size := by omega)); (try (have zw3 : w.heap.size + 1 + 1 + 1 < w1.heap.size := by omega)); (try (have zw4 : w.heap.size + 1 + 1 + 1 + 1 < w1.heap.size := by omega)); (try (have zw5 : w.heap.size + 1 + 1 + 1 + 1 + 1 < w1.heap.size := by omega))) | (go_at_call 48; go_in))
      all_goals (go_ret; refine ⟨ret_int HI.out.symm, ?_⟩)
      all_goals (repeat' (first | exact Below.refl _ _ | refine Below.alloc ?_ ?_ _ | refine Below.setCell ?_ ?_ _ | refine Below.drew ?_ | refine below_drewN ?_ _ | refine Below.trans ?_ (Below.mono (by assumption) ?_))) <;> (try first | omega | (simp; done) | (simp at *; omega))
    · have HI : Hid (waysI pw ph t k b h = -1) := waysI_no (.inr (by omega))
      go_enter Try.func16, Try.ntmps16
      go_wp2_with (first | (go_at_call 47; refine (spec_validPane_c _ _ _ _ _).mono ?_; rintro e w1 ⟨rfl, hb1⟩; obtain ⟨hc1, hf1, -, hz1⟩ := bcell hb1; (try simp at hz1); (try (have zw0 : w.heap.size < w1.heap.size := by omega)); (try (have zw1 : w.heap.size + 1 < w1.heap.size := by omega)); (try (have zw2 : w.heap.size + 1 + 1 < w1.heap.size := by omega)); (try (have zw3 : w.heap.size + 1 + 1 + 1 < w1.heap.size := by omega)); (try (have zw4 : w.heap.size + 1 + 1 + 1 + 1 < w1.heap.size := by omega)); (try (have zw5 : w.heap.size + 1 + 1 + 1 + 1 + 1 < w1.heap.size := by omega))) | (go_at_call 49; refine (spec_waysIn_c _ _ _ _ _ _ _).mono ?_; rintro e w1 ⟨rfl, hb1⟩; obtain ⟨hc1, hf1, -, hz1⟩ := bcell hb1; (try simp at hz1); (try (have zw0 : w.heap.size < w1.heap.size := by omega)); (try (have zw1 : w.heap.size + 1 < w1.heap.size := by omega)); (try (have zw2 : w.heap.size + 1 + 1 < w1.heap.size := by omega)); (try (have zw3 : w.heap.size + 1 + 1 + 1 < w1.heap.size := by omega)); (try (have zw4 : w.heap.size + 1 + 1 + 1 + 1 < w1.heap.size := by omega)); (try (have zw5 : w.heap.size + 1 + 1 + 1 + 1 + 1 < w1.heap.size := by omega))) | (go_at_call 48; go_in))
      all_goals (first | (exfalso; simp only [Bool.not_eq_true', Bool.not_eq_false', decide_eq_true_eq, decide_eq_false_iff_not] at *; omega) | skip)
      all_goals (go_ret; refine ⟨ret_int HI.out.symm, ?_⟩)
      all_goals (repeat' (first | exact Below.refl _ _ | refine Below.alloc ?_ ?_ _ | refine Below.setCell ?_ ?_ _ | refine Below.drew ?_ | refine below_drewN ?_ _ | refine Below.trans ?_ (Below.mono (by assumption) ?_))) <;> (try first | omega | (simp; done) | (simp at *; omega))
end Go.Proofs.Ytimfabpigpcjhaa
