/- What ScaleLength does (spec and impl), for every argument; no statement is proved here. -/
import Derived.Test.YthaaclgonfekpaaBase
namespace Go.Proofs.Ythaaclgonfekpaa
open Go.ChangeShapes Go.WideShapes Go.ChangeAt Go.RowKit
set_option linter.unusedVariables false
set_option linter.unusedSimpArgs false

def scaleOk (n bar x : Int) : Bool := decide (1 ≤ n ∧ n ≤ 6 ∧ 1 ≤ bar ∧ bar ≤ 200 ∧ 0 ≤ x ∧ x ≤ bar)
@[irreducible] def scaleN (n bar x : Int) : Int := if (n + 1) * x % bar = 0 then n * x else (n + 1) * x / bar * bar
@[irreducible] def scaleI (n bar x : Int) : Int := if scaleOk n bar x = true then scaleN n bar x else -1
theorem scaleI_no {n bar x : Int} (h : ¬(1 ≤ n ∧ n ≤ 6 ∧ 1 ≤ bar ∧ bar ≤ 200 ∧ 0 ≤ x ∧ x ≤ bar)) : scaleI n bar x = -1 := by
  unfold scaleI; rw [if_neg (by simpa [scaleOk] using h)]
theorem scaleI_yes {n bar x : Int} (h : 1 ≤ n ∧ n ≤ 6 ∧ 1 ≤ bar ∧ bar ≤ 200 ∧ 0 ≤ x ∧ x ≤ bar) : scaleI n bar x = scaleN n bar x := by
  unfold scaleI; rw [if_pos (by simpa [scaleOk] using h)]
theorem prod_bd {a x b c : Int} (h1 : 0 ≤ a) (h2 : a ≤ b) (h3 : 0 ≤ x) (h4 : x ≤ c) : 0 ≤ a * x ∧ a * x ≤ b * c :=
  ⟨Int.mul_nonneg h1 h3, Int.mul_le_mul h2 h4 h3 (Int.le_trans h1 h2)⟩
theorem divmul_bd {p b : Int} (h0 : 0 ≤ p) (hb : 1 ≤ b) : 0 ≤ p / b * b ∧ p / b * b ≤ p := ⟨Int.mul_nonneg (Int.ediv_nonneg h0 (by omega)) (by omega), Int.ediv_mul_le p (by omega)⟩

theorem spec_scale_c (n bar x : Int) (w : World) (h : 1 ≤ n ∧ n ≤ 6 ∧ 1 ≤ bar ∧ bar ≤ 200 ∧ 0 ≤ x ∧ x ≤ bar) : Calls Try.prog 48 #[(.int .i64 n), (.int .i64 bar), (.int .i64 x)] w (Rs (.int .i64 (scaleN n bar x)) w) := by
  obtain ⟨h1, h2, h3, h4, h5, h6⟩ := h
  have p1 := prod_bd (a := n + 1) (x := x) (b := 7) (c := 200) (by omega) (by omega) h5 (by omega)
  have p2 := prod_bd (a := n) (x := x) (b := 7) (c := 200) (by omega) (by omega) h5 (by omega)
  have p3 := divmul_bd p1.1 h3
  obtain ⟨p1a, p1b⟩ := p1
  obtain ⟨p2a, p2b⟩ := p2
  obtain ⟨p3a, p3b⟩ := p3
  have hu : scaleN n bar x = if (n + 1) * x % bar = 0 then n * x else (n + 1) * x / bar * bar := by unfold scaleN; rfl
  by_cases hm : (n + 1) * x % bar = 0
  · have HI : Hid (scaleN n bar x = n * x) := by show _ = _; rw [hu, if_pos hm]
    clear hu
    go_enter Try.func48, Try.ntmps48
    go_wp2
    all_goals (go_ret; exact ⟨ret_int HI.out.symm, rfl⟩)
  · have HI : Hid (scaleN n bar x = (n + 1) * x / bar * bar) := by show _ = _; rw [hu, if_neg hm]
    clear hu
    go_enter Try.func48, Try.ntmps48
    go_wp2
    all_goals (go_ret; exact ⟨ret_int HI.out.symm, rfl⟩)
theorem spec_ScaleLength_c (n bar x : Int) (w : World) : Calls Try.prog 18 #[(.int .i64 n), (.int .i64 bar), (.int .i64 x)] w (Rs (.int .i64 (scaleI n bar x)) w) := by
  by_cases h : 1 ≤ n ∧ n ≤ 6 ∧ 1 ≤ bar ∧ bar ≤ 200 ∧ 0 ≤ x ∧ x ≤ bar
  · have HI : Hid (scaleI n bar x = scaleN n bar x) := scaleI_yes h
    have h' := h
    obtain ⟨h1, h2, h3, h4, h5, h6⟩ := h'
    go_enter Try.func18, Try.ntmps18
    go_wp2_with (first | (go_at_call 48; refine (spec_scale_c _ _ _ _ h).mono ?_; rintro e w1 ⟨rfl, rfl⟩) | (go_at_call 47; go_in))
    all_goals (go_ret; exact ⟨ret_int HI.out.symm, rfl⟩)
  · have HI : Hid (scaleI n bar x = -1) := scaleI_no h
    go_enter Try.func18, Try.ntmps18
    go_wp2_with (first | (go_at_call 47; go_in) | (go_at_call 48; exfalso; (simp only [Bool.not_eq_true', Bool.not_eq_false', decide_eq_true_eq, decide_eq_false_iff_not] at *); omega))
    all_goals (go_ret; exact ⟨ret_int HI.out.symm, rfl⟩)
theorem impl_ScaleLength_c (n bar x : Int) (w : World) : Calls Try.prog 17 #[(.int .i64 n), (.int .i64 bar), (.int .i64 x)] w (Rs (.int .i64 (scaleI n bar x)) w) := by
  by_cases h : 1 ≤ n ∧ n ≤ 6 ∧ 1 ≤ bar ∧ bar ≤ 200 ∧ 0 ≤ x ∧ x ≤ bar
  · obtain ⟨h1, h2, h3, h4, h5, h6⟩ := h
    have hc : x * (n + 1) = (n + 1) * x := Int.mul_comm _ _
    have p1 := prod_bd (a := n + 1) (x := x) (b := 7) (c := 200) (by omega) (by omega) h5 (by omega)
    have p2 := prod_bd (a := n) (x := x) (b := 7) (c := 200) (by omega) (by omega) h5 (by omega)
    have p3 := divmul_bd p1.1 h3
    rw [← hc] at p1 p3
    obtain ⟨p1a, p1b⟩ := p1
    obtain ⟨p2a, p2b⟩ := p2
    obtain ⟨p3a, p3b⟩ := p3
    have hu : scaleI n bar x = if (n + 1) * x % bar = 0 then n * x else (n + 1) * x / bar * bar := by rw [scaleI_yes ⟨h1, h2, h3, h4, h5, h6⟩]; unfold scaleN; rfl
    rw [← hc] at hu
    clear hc
    by_cases hm : x * (n + 1) % bar = 0
    · have HI : Hid (scaleI n bar x = n * x) := by show _ = _; rw [hu, if_pos hm]
      clear hu
      go_enter Try.func17, Try.ntmps17
      go_wp2
      all_goals (go_ret; exact ⟨ret_int HI.out.symm, rfl⟩)
    · have HI : Hid (scaleI n bar x = x * (n + 1) / bar * bar) := by show _ = _; rw [hu, if_neg hm]
      clear hu
      go_enter Try.func17, Try.ntmps17
      go_wp2
      all_goals (go_ret; exact ⟨ret_int HI.out.symm, rfl⟩)
  · have HI : Hid (scaleI n bar x = -1) := scaleI_no h
    go_enter Try.func17, Try.ntmps17
    go_wp2
    all_goals first | (exfalso; omega) | (go_ret; exact ⟨ret_int HI.out.symm, rfl⟩)
end Go.Proofs.Ythaaclgonfekpaa
