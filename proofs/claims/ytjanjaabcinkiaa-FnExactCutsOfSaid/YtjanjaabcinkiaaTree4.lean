/- planSize, PlanSize, countParts, cutsOf, CutsOf; no statement is proved here. -/
import Derived.Test.YtjanjaabcinkiaaTree
import Derived.Test.YtjanjaabcinkiaaCls
namespace Go.Proofs.Ytjanjaabcinkiaa
open Go.ChangeShapes Go.WideShapes Go.ChangeAt Go.RowKit Go.Deep
set_option linter.unusedVariables false
set_option linter.unusedSimpArgs false

def isC (op : Int) : Bool := decide (op = 2 ∨ op = 3)
/-- the size of a plan: -1 if it is not well formed -/
def psz : Pl → Int
  | .nil => 1
  | .node op pos pane tu n k =>
    if isC op = true then
      if n = 2 ∧ pane = 0 ∧ tu = false then (if psz (k 0) < 0 ∨ psz (k 1) < 0 ∨ 255 < 1 + psz (k 0) + psz (k 1) then -1 else 1 + psz (k 0) + psz (k 1)) else -1
    else if n = 0 ∧ pos = 0 ∧ (op = 1 ∨ (op = 0 ∧ pane = 0 ∧ tu = false)) then 1 else -1
theorem psz_node (op pos pane : Int) (tu : Bool) (n : Nat) (k : Nat → Pl) : psz (.node op pos pane tu n k) = if isC op = true then
      if n = 2 ∧ pane = 0 ∧ tu = false then (if psz (k 0) < 0 ∨ psz (k 1) < 0 ∨ 255 < 1 + psz (k 0) + psz (k 1) then -1 else 1 + psz (k 0) + psz (k 1)) else -1
    else if n = 0 ∧ pos = 0 ∧ (op = 1 ∨ (op = 0 ∧ pane = 0 ∧ tu = false)) then 1 else -1 := rfl
theorem psz_cut {t : Pl} (h : isC t.op = true) (h2 : t.n = 2 ∧ t.pane = 0 ∧ t.tu = false) : psz t = if psz (t.kid 0) < 0 ∨ psz (t.kid 1) < 0 ∨ 255 < 1 + psz (t.kid 0) + psz (t.kid 1) then -1 else 1 + psz (t.kid 0) + psz (t.kid 1) := by
  cases t with
  | nil => cases h
  | node op pos pane tu n k => rw [psz_node, if_pos (show isC op = true from h), if_pos (show n = 2 ∧ pane = 0 ∧ tu = false from h2)]; rfl
theorem psz_badcut {t : Pl} (h : isC t.op = true) (h2 : ¬ (t.n = 2 ∧ t.pane = 0 ∧ t.tu = false)) : psz t = -1 := by
  cases t with
  | nil => cases h
  | node op pos pane tu n k => rw [psz_node, if_pos (show isC op = true from h), if_neg (show ¬ (n = 2 ∧ pane = 0 ∧ tu = false) from h2)]
theorem psz_leaf {t : Pl} (h : isC t.op = false) (h2 : t.n = 0 ∧ t.pos = 0 ∧ (t.op = 1 ∨ (t.op = 0 ∧ t.pane = 0 ∧ t.tu = false))) : psz t = 1 := by
  cases t with
  | nil => rfl
  | node op pos pane tu n k => rw [psz_node, if_neg (show ¬ isC op = true by rw [show isC op = false from h]; decide), if_pos (show n = 0 ∧ pos = 0 ∧ (op = 1 ∨ (op = 0 ∧ pane = 0 ∧ tu = false)) from h2)]
theorem psz_bad {t : Pl} (h : isC t.op = false) (h2 : ¬ (t.n = 0 ∧ t.pos = 0 ∧ (t.op = 1 ∨ (t.op = 0 ∧ t.pane = 0 ∧ t.tu = false)))) : psz t = -1 := by
  cases t with
  | nil => exact absurd ⟨rfl, rfl, Or.inr ⟨rfl, rfl, rfl⟩⟩ h2
  | node op pos pane tu n k => rw [psz_node, if_neg (show ¬ isC op = true by rw [show isC op = false from h]; decide), if_neg (show ¬ (n = 0 ∧ pos = 0 ∧ (op = 1 ∨ (op = 0 ∧ pane = 0 ∧ tu = false))) from h2)]
theorem psz_bd : ∀ t : Pl, psz t = -1 ∨ (1 ≤ psz t ∧ psz t ≤ 255 ∧ psz t % 2 = 1) := by
  refine Pl.ind fun t ih => ?_
  cases hc : isC t.op
  · by_cases h2 : t.n = 0 ∧ t.pos = 0 ∧ (t.op = 1 ∨ (t.op = 0 ∧ t.pane = 0 ∧ t.tu = false))
    · right; rw [psz_leaf hc h2]; decide
    · left; exact psz_bad hc h2
  · by_cases h2 : t.n = 2 ∧ t.pane = 0 ∧ t.tu = false
    · rw [psz_cut hc h2]
      have i0 := ih 0 (by omega)
      have i1 := ih 1 (by omega)
      by_cases hb : psz (t.kid 0) < 0 ∨ psz (t.kid 1) < 0 ∨ 255 < 1 + psz (t.kid 0) + psz (t.kid 1)
      · left; rw [if_pos hb]
      · right; rw [if_neg hb]; omega
    · left; exact psz_badcut hc h2
def sumI (f : Nat → Int) : Nat → Int
  | 0 => 1
  | n + 1 => sumI f n + f n
theorem spec_isCut_c (x0 x1 x2 : Int) (x3 : Bool) (x4 : Value) (w : World) : Calls Try.prog 85 #[(.agg #[.int .i64 x0, .int .i64 x1, .int .i64 x2, .bool x3, x4])] w (Rt (.bool (isC x0)) w) := by
  go_enter Try.func85, Try.ntmps85
  go_wp2
  all_goals go_ret
  all_goals (refine ⟨ret_bool ?_, (by repeat' (first | with_reducible exact Below.refl _ _ | with_reducible refine Below.alloc ?_ (by first | omega | (simp; done) | (simp; omega)) _ | with_reducible refine Below.drew ?_ | with_reducible refine below_drewN ?_ _ | with_reducible refine Below.setCell ?_ (by first | omega | (simp; done) | (simp; omega)) _ | with_reducible refine Below.grown ?_ (by assumption) (by first | omega | (simp; done) | (simp; omega)) (by intro k hk; cases hk; omega) | with_reducible refine Below.trans ?_ (Below.mono (by assumption) (by first | omega | (simp; done) | (simp; omega)))))⟩; unfold isC)
  all_goals (rw [Bool.eq_iff_iff]; simp only [decide_eq_true_eq, true_iff, iff_true, Bool.false_eq_true, false_iff, iff_false, Bool.and_eq_true, Bool.or_eq_true, beq_iff_eq]; try omega)
/-- what planSize does with a plan -/
def PsP (t : Pl) : Prop := ∀ (B : Nat) (v : Value) (w : World), KT B w t v → Calls Try.prog 53 #[(.agg #[.int .i64 t.op, .int .i64 t.pos, .int .i64 t.pane, .bool t.tu, v])] w (Rt (.int .i64 (psz t)) w)
set_option maxHeartbeats 2000000 in
theorem spec_planSize_c : ∀ t, PsP t := by
  refine Pl.ind fun t ih => ?_
  intro B v w h
  obtain ⟨x0, hx0⟩ : ∃ x, t.op = x := ⟨_, rfl⟩
  obtain ⟨x1, hx1⟩ : ∃ x, t.pos = x := ⟨_, rfl⟩
  obtain ⟨x2, hx2⟩ : ∃ x, t.pane = x := ⟨_, rfl⟩
  obtain ⟨x3, hx3⟩ : ∃ x, t.tu = x := ⟨_, rfl⟩
  have hform := h.form
  obtain ⟨n, hn⟩ : ∃ n, t.n = n := ⟨_, rfl⟩
  rw [hn] at hform
  obtain ⟨hm, p, cap, rfl, -⟩ := hform
  rw [hx0, hx1, hx2, hx3]
  have CC := fun W => spec_isCut_c x0 x1 x2 x3 (.slice p n cap) W
  cases hc : isC x0
  · have hc' : isC t.op = false := by rw [hx0]; exact hc
    rw [hc] at CC
    by_cases h2 : n = 0 ∧ x1 = 0 ∧ (x0 = 1 ∨ (x0 = 0 ∧ x2 = 0 ∧ x3 = false))
    · have hg : Hid (psz t = 1) := psz_leaf hc' (by rw [hn, hx1, hx0, hx2, hx3]; exact h2)
      rw [hg.out]
      obtain ⟨h3, h4, h5⟩ := h2
      clear hc hc' hx0 hx1 hx2 hx3 ih h
      subst h3 h4
      rcases h5 with h5 | ⟨h5, h6, h7⟩
      · subst h5
        go_enter Try.func53, Try.ntmps53
        go_wp2_with fail
        go_at_call 85
        refine (CC _).mono ?_
        rintro e w1 ⟨rfl, hb1⟩
        obtain ⟨hc1, hf1, -, hz1⟩ := bcell hb1
        (try simp at hz1)
        (try (have y1 : w.heap.size ≤ w1.heap.size := by omega))
        (try (have z1_0_0 : w.heap.size < w1.heap.size := by omega))
        (try (have z1_0_1 : w.heap.size + 1 < w1.heap.size := by omega))
        (try (have z1_0_2 : w.heap.size + 1 + 1 < w1.heap.size := by omega))
        (try (have z1_0_3 : w.heap.size + 1 + 1 + 1 < w1.heap.size := by omega))
        have k4 : w1.cell? ⟨w.heap.size, 4, none⟩ = some (.slice p 0 cap) := by go_simp
        go_wp2_with fail
        go_loopw [3, 4] (fun c i wr => c = .int .i64 1 ∧ i = .int .i64 0 ∧ w1 = wr) (fun _ _ _ => (0 : Nat))
        case atStart => exact ⟨rfl, rfl, rfl⟩
        case round =>
          obtain ⟨rfl, rfl, rfl⟩ := hrel
          go_wp2
          go_ret
          exact ⟨rfl, (by repeat' (first | with_reducible exact Below.refl _ _ | with_reducible refine Below.alloc ?_ (by first | omega | (simp; done) | (simp; omega)) _ | with_reducible refine Below.drew ?_ | with_reducible refine below_drewN ?_ _ | with_reducible refine Below.setCell ?_ (by first | omega | (simp; done) | (simp; omega)) _ | with_reducible refine Below.grown ?_ (by assumption) (by first | omega | (simp; done) | (simp; omega)) (by intro k hk; cases hk; omega) | with_reducible refine Below.trans ?_ (Below.mono (by assumption) (by first | omega | (simp; done) | (simp; omega)))))⟩
      · subst h5 h6 h7
        go_enter Try.func53, Try.ntmps53
        go_wp2_with fail
        go_at_call 85
        refine (CC _).mono ?_
        rintro e w1 ⟨rfl, hb1⟩
        obtain ⟨hc1, hf1, -, hz1⟩ := bcell hb1
        (try simp at hz1)
        (try (have y1 : w.heap.size ≤ w1.heap.size := by omega))
        (try (have z1_0_0 : w.heap.size < w1.heap.size := by omega))
        (try (have z1_0_1 : w.heap.size + 1 < w1.heap.size := by omega))
        (try (have z1_0_2 : w.heap.size + 1 + 1 < w1.heap.size := by omega))
        (try (have z1_0_3 : w.heap.size + 1 + 1 + 1 < w1.heap.size := by omega))
        have k4 : w1.cell? ⟨w.heap.size, 4, none⟩ = some (.slice p 0 cap) := by go_simp
        go_wp2_with fail
        go_loopw [3, 4] (fun c i wr => c = .int .i64 1 ∧ i = .int .i64 0 ∧ w1 = wr) (fun _ _ _ => (0 : Nat))
        case atStart => exact ⟨rfl, rfl, rfl⟩
        case round =>
          obtain ⟨rfl, rfl, rfl⟩ := hrel
          go_wp2
          go_ret
          exact ⟨rfl, (by repeat' (first | with_reducible exact Below.refl _ _ | with_reducible refine Below.alloc ?_ (by first | omega | (simp; done) | (simp; omega)) _ | with_reducible refine Below.drew ?_ | with_reducible refine below_drewN ?_ _ | with_reducible refine Below.setCell ?_ (by first | omega | (simp; done) | (simp; omega)) _ | with_reducible refine Below.grown ?_ (by assumption) (by first | omega | (simp; done) | (simp; omega)) (by intro k hk; cases hk; omega) | with_reducible refine Below.trans ?_ (Below.mono (by assumption) (by first | omega | (simp; done) | (simp; omega)))))⟩
    · have hg : Hid (psz t = -1) := psz_bad hc' (by rw [hn, hx1, hx0, hx2, hx3]; exact h2)
      rw [hg.out]
      have h3 : n ≠ 0 ∨ x1 ≠ 0 ∨ (x0 ≠ 1 ∧ (x0 ≠ 0 ∨ x2 ≠ 0 ∨ x3 = true)) := by
        cases x3 <;> simp at h2 ⊢ <;> omega
      clear hc hc' hx0 hx1 hx2 hx3 ih h h2
      rcases h3 with h3 | h3 | ⟨h3, h4 | h4 | h4⟩
      · have e1 : ((n : Int) != 0) = true := by simp; omega
        go_enter Try.func53, Try.ntmps53
        go_wp2_with fail
        go_at_call 85
        refine (CC _).mono ?_
        rintro e w1 ⟨rfl, hb1⟩
        obtain ⟨hc1, hf1, -, hz1⟩ := bcell hb1
        (try simp at hz1)
        (try (have y1 : w.heap.size ≤ w1.heap.size := by omega))
        (try (have z1_0_0 : w.heap.size < w1.heap.size := by omega))
        (try (have z1_0_1 : w.heap.size + 1 < w1.heap.size := by omega))
        (try (have z1_0_2 : w.heap.size + 1 + 1 < w1.heap.size := by omega))
        (try (have z1_0_3 : w.heap.size + 1 + 1 + 1 < w1.heap.size := by omega))
        go_wp2_with fail
        all_goals go_ret
        all_goals exact ⟨rfl, (by repeat' (first | with_reducible exact Below.refl _ _ | with_reducible refine Below.alloc ?_ (by first | omega | (simp; done) | (simp; omega)) _ | with_reducible refine Below.drew ?_ | with_reducible refine below_drewN ?_ _ | with_reducible refine Below.setCell ?_ (by first | omega | (simp; done) | (simp; omega)) _ | with_reducible refine Below.grown ?_ (by assumption) (by first | omega | (simp; done) | (simp; omega)) (by intro k hk; cases hk; omega) | with_reducible refine Below.trans ?_ (Below.mono (by assumption) (by first | omega | (simp; done) | (simp; omega)))))⟩
      · have e1 : (x1 != 0) = true := by simp; omega
        go_enter Try.func53, Try.ntmps53
        go_wp2_with fail
        go_at_call 85
        refine (CC _).mono ?_
        rintro e w1 ⟨rfl, hb1⟩
        obtain ⟨hc1, hf1, -, hz1⟩ := bcell hb1
        (try simp at hz1)
        (try (have y1 : w.heap.size ≤ w1.heap.size := by omega))
        (try (have z1_0_0 : w.heap.size < w1.heap.size := by omega))
        (try (have z1_0_1 : w.heap.size + 1 < w1.heap.size := by omega))
        (try (have z1_0_2 : w.heap.size + 1 + 1 < w1.heap.size := by omega))
        (try (have z1_0_3 : w.heap.size + 1 + 1 + 1 < w1.heap.size := by omega))
        go_wp2_with fail
        all_goals go_ret
        all_goals exact ⟨rfl, (by repeat' (first | with_reducible exact Below.refl _ _ | with_reducible refine Below.alloc ?_ (by first | omega | (simp; done) | (simp; omega)) _ | with_reducible refine Below.drew ?_ | with_reducible refine below_drewN ?_ _ | with_reducible refine Below.setCell ?_ (by first | omega | (simp; done) | (simp; omega)) _ | with_reducible refine Below.grown ?_ (by assumption) (by first | omega | (simp; done) | (simp; omega)) (by intro k hk; cases hk; omega) | with_reducible refine Below.trans ?_ (Below.mono (by assumption) (by first | omega | (simp; done) | (simp; omega)))))⟩
      · have e1 : (x0 != 1) = true := by simp; omega
        have e2 : (x0 != 0) = true := by simp; omega
        go_enter Try.func53, Try.ntmps53
        go_wp2_with fail
        go_at_call 85
        refine (CC _).mono ?_
        rintro e w1 ⟨rfl, hb1⟩
        obtain ⟨hc1, hf1, -, hz1⟩ := bcell hb1
        (try simp at hz1)
        (try (have y1 : w.heap.size ≤ w1.heap.size := by omega))
        (try (have z1_0_0 : w.heap.size < w1.heap.size := by omega))
        (try (have z1_0_1 : w.heap.size + 1 < w1.heap.size := by omega))
        (try (have z1_0_2 : w.heap.size + 1 + 1 < w1.heap.size := by omega))
        (try (have z1_0_3 : w.heap.size + 1 + 1 + 1 < w1.heap.size := by omega))
        go_wp2_with fail
        all_goals go_ret
        all_goals exact ⟨rfl, (by repeat' (first | with_reducible exact Below.refl _ _ | with_reducible refine Below.alloc ?_ (by first | omega | (simp; done) | (simp; omega)) _ | with_reducible refine Below.drew ?_ | with_reducible refine below_drewN ?_ _ | with_reducible refine Below.setCell ?_ (by first | omega | (simp; done) | (simp; omega)) _ | with_reducible refine Below.grown ?_ (by assumption) (by first | omega | (simp; done) | (simp; omega)) (by intro k hk; cases hk; omega) | with_reducible refine Below.trans ?_ (Below.mono (by assumption) (by first | omega | (simp; done) | (simp; omega)))))⟩
      · have e1 : (x0 != 1) = true := by simp; omega
        have e2 : (x2 != 0) = true := by simp; omega
        go_enter Try.func53, Try.ntmps53
        go_wp2_with fail
        go_at_call 85
        refine (CC _).mono ?_
        rintro e w1 ⟨rfl, hb1⟩
        obtain ⟨hc1, hf1, -, hz1⟩ := bcell hb1
        (try simp at hz1)
        (try (have y1 : w.heap.size ≤ w1.heap.size := by omega))
        (try (have z1_0_0 : w.heap.size < w1.heap.size := by omega))
        (try (have z1_0_1 : w.heap.size + 1 < w1.heap.size := by omega))
        (try (have z1_0_2 : w.heap.size + 1 + 1 < w1.heap.size := by omega))
        (try (have z1_0_3 : w.heap.size + 1 + 1 + 1 < w1.heap.size := by omega))
        go_wp2_with fail
        all_goals go_ret
        all_goals exact ⟨rfl, (by repeat' (first | with_reducible exact Below.refl _ _ | with_reducible refine Below.alloc ?_ (by first | omega | (simp; done) | (simp; omega)) _ | with_reducible refine Below.drew ?_ | with_reducible refine below_drewN ?_ _ | with_reducible refine Below.setCell ?_ (by first | omega | (simp; done) | (simp; omega)) _ | with_reducible refine Below.grown ?_ (by assumption) (by first | omega | (simp; done) | (simp; omega)) (by intro k hk; cases hk; omega) | with_reducible refine Below.trans ?_ (Below.mono (by assumption) (by first | omega | (simp; done) | (simp; omega)))))⟩
      · have e1 : (x0 != 1) = true := by simp; omega
        subst h4
        go_enter Try.func53, Try.ntmps53
        go_wp2_with fail
        go_at_call 85
        refine (CC _).mono ?_
        rintro e w1 ⟨rfl, hb1⟩
        obtain ⟨hc1, hf1, -, hz1⟩ := bcell hb1
        (try simp at hz1)
        (try (have y1 : w.heap.size ≤ w1.heap.size := by omega))
        (try (have z1_0_0 : w.heap.size < w1.heap.size := by omega))
        (try (have z1_0_1 : w.heap.size + 1 < w1.heap.size := by omega))
        (try (have z1_0_2 : w.heap.size + 1 + 1 < w1.heap.size := by omega))
        (try (have z1_0_3 : w.heap.size + 1 + 1 + 1 < w1.heap.size := by omega))
        go_wp2_with fail
        all_goals go_ret
        all_goals exact ⟨rfl, (by repeat' (first | with_reducible exact Below.refl _ _ | with_reducible refine Below.alloc ?_ (by first | omega | (simp; done) | (simp; omega)) _ | with_reducible refine Below.drew ?_ | with_reducible refine below_drewN ?_ _ | with_reducible refine Below.setCell ?_ (by first | omega | (simp; done) | (simp; omega)) _ | with_reducible refine Below.grown ?_ (by assumption) (by first | omega | (simp; done) | (simp; omega)) (by intro k hk; cases hk; omega) | with_reducible refine Below.trans ?_ (Below.mono (by assumption) (by first | omega | (simp; done) | (simp; omega)))))⟩
  · have hc' : isC t.op = true := by rw [hx0]; exact hc
    rw [hc] at CC
    by_cases h2 : n = 2 ∧ x2 = 0 ∧ x3 = false
    · obtain ⟨h3, h4, h5⟩ := h2
      have h2' : t.n = 2 ∧ t.pane = 0 ∧ t.tu = false := ⟨hn.trans h3, hx2.trans h4, hx3.trans h5⟩
      have hP := psz_cut hc' h2'
      have hr0 := h.rsl (by omega)
      obtain ⟨p', cap', kv, he, hk, hr⟩ := hr0
      rw [hn] at he hk hr
      simp only [Value.slice.injEq, true_and] at he
      obtain ⟨rfl, rfl⟩ := he
      obtain ⟨S, hS⟩ : ∃ S, S = sumI (fun i => psz (t.kid i)) := ⟨_, rfl⟩
      have hS0 : S 0 = 1 := by rw [hS]; rfl
      have hS1 : ∀ k, S (k + 1) = S k + psz (t.kid k) := fun k => by rw [hS]; rfl
      have hbd := fun k => psz_bd (t.kid k)
      rw [hn] at ih
      subst h3 h4 h5
      have HR := mkhid (⟨ih, hk, hr, hS0, hS1, hbd, hP⟩ : _ ∧ _ ∧ _ ∧ _ ∧ _ ∧ _ ∧ _)
      clear hc hc' hx1 hx2 hx3 ih h h2' hP hr hk hS hS1 hS0 hbd hn
      clear hx0
      go_enter Try.func53, Try.ntmps53
      go_wp2_with fail
      go_at_call 85
      refine (CC _).mono ?_
      rintro e w1 ⟨rfl, hb1⟩
      obtain ⟨hc1, hf1, -, hz1⟩ := bcell hb1
      (try simp at hz1)
      (try (have y1 : w.heap.size ≤ w1.heap.size := by omega))
      (try (have z1_0_0 : w.heap.size < w1.heap.size := by omega))
      (try (have z1_0_1 : w.heap.size + 1 < w1.heap.size := by omega))
      (try (have z1_0_2 : w.heap.size + 1 + 1 < w1.heap.size := by omega))
      (try (have z1_0_3 : w.heap.size + 1 + 1 + 1 < w1.heap.size := by omega))
      have k4 : w1.cell? ⟨w.heap.size, 4, none⟩ = some (.slice p 2 cap) := by go_simp
      have hB1 : Below w.heap.size w w1 := (by repeat' (first | with_reducible exact Below.refl _ _ | with_reducible refine Below.alloc ?_ (by first | omega | (simp; done) | (simp; omega)) _ | with_reducible refine Below.drew ?_ | with_reducible refine below_drewN ?_ _ | with_reducible refine Below.setCell ?_ (by first | omega | (simp; done) | (simp; omega)) _ | with_reducible refine Below.grown ?_ (by assumption) (by first | omega | (simp; done) | (simp; omega)) (by intro k hk; cases hk; omega) | with_reducible refine Below.trans ?_ (Below.mono (by assumption) (by first | omega | (simp; done) | (simp; omega)))))
      have z1 : w.heap.size < w1.heap.size := by omega
      go_wp2_with fail
      go_loopw [3, 4] (fun c i wr => ∃ k : Nat, k ≤ 2 ∧ i = .int .i64 k ∧ c = .int .i64 (S k) ∧ Hid (∀ j, j < k → 0 ≤ psz (t.kid j)) ∧ 1 ≤ S k ∧ S k ≤ 1 + 255 * k ∧ Below w1.heap.size w1 wr) (fun _ i _ => 2 - (intOf i).toNat)
      case atStart => exact ⟨0, Nat.zero_le _, rfl, by rw [HR.out.2.2.2.1], fun j hj => absurd hj (Nat.not_lt_zero _), by rw [HR.out.2.2.2.1]; omega, by rw [HR.out.2.2.2.1]; omega, Below.refl _ _⟩
      case round =>
        obtain ⟨k, hk2, rfl, rfl, hpos, hs1, hs2, hbr⟩ := hrel
        obtain ⟨ih, hk, hr, hS0, hS1, hbd, hP⟩ := HR.out
        have k4' : wr.cell? ⟨w.heap.size, 4, none⟩ = some (.slice p 2 cap) := (hbr.cell (p := ⟨w.heap.size, 4, none⟩) z1).trans k4
        have hz := hbr.size
        obtain ⟨s, hs⟩ : ∃ s, s = S k := ⟨_, rfl⟩
        rw [← hs] at hs1 hs2 ⊢
        by_cases hlt : k < 2
        · have i1 : (0 : Int) ≤ (k : Int) := by omega
          have i2 : (k : Int) < 2 := by omega
          obtain ⟨b, off, rfl, hbb, hR⟩ := hr k hlt
          have hbw := hB1.trans (hbr.mono (by omega))
          obtain ⟨c0, c1, c2, c3, c4⟩ := plan_cells (hR.below hbw) hlt
          have HC := ih k hlt B (kv k) wr (KT.below hbw _ _ (hk k hlt))
          have e1 := hS1 k
          have e2 := hbd k
          obtain ⟨q, hq⟩ : ∃ q, q = t.kid k := ⟨_, rfl⟩
          have HQ := mkhid hq
          rw [← hq] at c0 c1 c2 c3 HC e1 e2
          obtain ⟨y0, hy0⟩ : ∃ x, x = q.op := ⟨_, rfl⟩
          obtain ⟨y1, hy1⟩ : ∃ x, x = q.pos := ⟨_, rfl⟩
          obtain ⟨y2, hy2⟩ : ∃ x, x = q.pane := ⟨_, rfl⟩
          obtain ⟨y3, hy3⟩ : ∃ x, x = q.tu := ⟨_, rfl⟩
          obtain ⟨y4, hy4⟩ : ∃ x, x = kv k := ⟨_, rfl⟩
          obtain ⟨P, hPk⟩ : ∃ P, P = psz q := ⟨_, rfl⟩
          have HPk := mkhid hPk
          rw [← hy0, ← hy1, ← hy2, ← hy3, ← hy4, ← hPk] at HC
          rw [← hPk] at e1 e2
          rw [← hy0] at c0
          rw [← hy1] at c1
          rw [← hy2] at c2
          rw [← hy3] at c3
          rw [← hy4] at c4
          have HS := mkhid hs
          clear hy0 hy1 hy2 hy3 hy4 hq ih hk hr hS0 hS1 hbd hPk hs
          by_cases hneg : P < 0
          · have hP1 : P = -1 := by omega
            have hg : Hid (psz t = -1) := by
              show _ = _
              rw [hP, if_pos]
              have hx : psz (t.kid k) < 0 := by rw [← HQ.out, ← HPk.out]; exact hneg
              rcases (show k = 0 ∨ k = 1 by omega) with e | e
              · subst e; exact Or.inl hx
              · subst e; exact Or.inr (Or.inl hx)
            subst hP1
            clear hP hneg e1 e2
            go_wp2_with (go_at_call 53; refine HC.mono ?_; rintro e w2 ⟨rfl, hb2⟩)
            go_ret
            exact ⟨ret_int hg.out.symm, (by repeat' (first | with_reducible exact Below.refl _ _ | with_reducible refine Below.alloc ?_ (by first | omega | (simp; done) | (simp; omega)) _ | with_reducible refine Below.drew ?_ | with_reducible refine below_drewN ?_ _ | with_reducible refine Below.setCell ?_ (by first | omega | (simp; done) | (simp; omega)) _ | with_reducible refine Below.grown ?_ (by assumption) (by first | omega | (simp; done) | (simp; omega)) (by intro k hk; cases hk; omega) | with_reducible refine Below.trans ?_ (Below.mono (by assumption) (by first | omega | (simp; done) | (simp; omega)))))⟩
          · have hpp : 1 ≤ P ∧ P ≤ 255 := by omega
            have hneg' : decide (P < 0) = false := decide_eq_false hneg
            have s1 : IntKind.i64.wrap (s + P) = s + P := IntWalk.i64_in _ (by omega)
            have hnx : Hid (∀ j, j < k + 1 → 0 ≤ psz (t.kid j)) := fun j hj => by
              rcases Nat.lt_succ_iff_lt_or_eq.1 hj with e | e
              · exact hpos.out j e
              · rw [e, ← HQ.out, ← HPk.out]; omega
            have hv : S (k + 1) = s + P := by rw [e1, ← HS.out]
            have HV := mkhid hv
            have HB := mkhid (⟨by omega, by omega⟩ : 1 ≤ s + P ∧ s + P ≤ 1 + 255 * ((k : Int) + 1))
            clear hP hneg e1 e2 hpp hpos hv hs1 hs2
            go_wp2_with (go_at_call 53; refine HC.mono ?_; rintro e w2 ⟨rfl, hb2⟩)
            go_roundw
            case rel => exact ⟨k + 1, by omega, by go_num, by rw [HV.out], hnx, by rw [HV.out]; exact HB.out.1, by rw [HV.out]; exact HB.out.2, hbr.trans (hb2.mono (by omega))⟩
            case measure => first | (simp [intOf]; done) | (simp [intOf]; omega)
        · have hk' : k = 2 := by omega
          have e0 : S 1 = S 0 + psz (t.kid 0) := hS1 0
          have e1 : S 2 = S 1 + psz (t.kid 1) := hS1 1
          have p0 := hpos.out 0 (by omega)
          have p1 := hpos.out 1 (by omega)
          have hs' : s = 1 + psz (t.kid 0) + psz (t.kid 1) := by rw [hs, hk']; omega
          have hbw := hB1.trans (hbr.mono (by omega))
          by_cases hbig : 255 < s
          · have hg : Hid (psz t = -1) := by show _ = _; rw [hP, if_pos (by omega)]
            have d1 : decide (255 < s) = true := decide_eq_true hbig
            clear hP hs e0 e1 p0 p1 hs' ih hk hr hS0 hS1 hbd hpos
            subst hk'
            go_wp2_with fail
            go_ret
            exact ⟨ret_int hg.out.symm, hbw⟩
          · have hg : Hid (psz t = s) := by show _ = _; rw [hP, if_neg (by omega)]; omega
            have d1 : decide (255 < s) = false := decide_eq_false hbig
            clear hP hs e0 e1 p0 p1 hs' ih hk hr hS0 hS1 hbd hpos
            subst hk'
            go_wp2_with fail
            go_ret
            exact ⟨ret_int hg.out.symm, hbw⟩
    · have hg : Hid (psz t = -1) := psz_badcut hc' (by rw [hn, hx2, hx3]; exact h2)
      rw [hg.out]
      have h3 : n ≠ 2 ∨ x2 ≠ 0 ∨ x3 = true := by cases x3 <;> simp at h2 ⊢ <;> omega
      clear hc hc' hx0 hx1 hx2 hx3 ih h h2
      rcases h3 with h3 | h3 | h3
      · have e1 : ((n : Int) != 2) = true := by simp; omega
        go_enter Try.func53, Try.ntmps53
        go_wp2_with fail
        go_at_call 85
        refine (CC _).mono ?_
        rintro e w1 ⟨rfl, hb1⟩
        obtain ⟨hc1, hf1, -, hz1⟩ := bcell hb1
        (try simp at hz1)
        (try (have y1 : w.heap.size ≤ w1.heap.size := by omega))
        (try (have z1_0_0 : w.heap.size < w1.heap.size := by omega))
        (try (have z1_0_1 : w.heap.size + 1 < w1.heap.size := by omega))
        (try (have z1_0_2 : w.heap.size + 1 + 1 < w1.heap.size := by omega))
        (try (have z1_0_3 : w.heap.size + 1 + 1 + 1 < w1.heap.size := by omega))
        go_wp2_with fail
        all_goals go_ret
        all_goals exact ⟨rfl, (by repeat' (first | with_reducible exact Below.refl _ _ | with_reducible refine Below.alloc ?_ (by first | omega | (simp; done) | (simp; omega)) _ | with_reducible refine Below.drew ?_ | with_reducible refine below_drewN ?_ _ | with_reducible refine Below.setCell ?_ (by first | omega | (simp; done) | (simp; omega)) _ | with_reducible refine Below.grown ?_ (by assumption) (by first | omega | (simp; done) | (simp; omega)) (by intro k hk; cases hk; omega) | with_reducible refine Below.trans ?_ (Below.mono (by assumption) (by first | omega | (simp; done) | (simp; omega)))))⟩
      · have e1 : (x2 != 0) = true := by simp; omega
        go_enter Try.func53, Try.ntmps53
        go_wp2_with fail
        go_at_call 85
        refine (CC _).mono ?_
        rintro e w1 ⟨rfl, hb1⟩
        obtain ⟨hc1, hf1, -, hz1⟩ := bcell hb1
        (try simp at hz1)
        (try (have y1 : w.heap.size ≤ w1.heap.size := by omega))
        (try (have z1_0_0 : w.heap.size < w1.heap.size := by omega))
        (try (have z1_0_1 : w.heap.size + 1 < w1.heap.size := by omega))
        (try (have z1_0_2 : w.heap.size + 1 + 1 < w1.heap.size := by omega))
        (try (have z1_0_3 : w.heap.size + 1 + 1 + 1 < w1.heap.size := by omega))
        go_wp2_with fail
        all_goals go_ret
        all_goals exact ⟨rfl, (by repeat' (first | with_reducible exact Below.refl _ _ | with_reducible refine Below.alloc ?_ (by first | omega | (simp; done) | (simp; omega)) _ | with_reducible refine Below.drew ?_ | with_reducible refine below_drewN ?_ _ | with_reducible refine Below.setCell ?_ (by first | omega | (simp; done) | (simp; omega)) _ | with_reducible refine Below.grown ?_ (by assumption) (by first | omega | (simp; done) | (simp; omega)) (by intro k hk; cases hk; omega) | with_reducible refine Below.trans ?_ (Below.mono (by assumption) (by first | omega | (simp; done) | (simp; omega)))))⟩
      · subst h3
        go_enter Try.func53, Try.ntmps53
        go_wp2_with fail
        go_at_call 85
        refine (CC _).mono ?_
        rintro e w1 ⟨rfl, hb1⟩
        obtain ⟨hc1, hf1, -, hz1⟩ := bcell hb1
        (try simp at hz1)
        (try (have y1 : w.heap.size ≤ w1.heap.size := by omega))
        (try (have z1_0_0 : w.heap.size < w1.heap.size := by omega))
        (try (have z1_0_1 : w.heap.size + 1 < w1.heap.size := by omega))
        (try (have z1_0_2 : w.heap.size + 1 + 1 < w1.heap.size := by omega))
        (try (have z1_0_3 : w.heap.size + 1 + 1 + 1 < w1.heap.size := by omega))
        go_wp2_with fail
        all_goals go_ret
        all_goals exact ⟨rfl, (by repeat' (first | with_reducible exact Below.refl _ _ | with_reducible refine Below.alloc ?_ (by first | omega | (simp; done) | (simp; omega)) _ | with_reducible refine Below.drew ?_ | with_reducible refine below_drewN ?_ _ | with_reducible refine Below.setCell ?_ (by first | omega | (simp; done) | (simp; omega)) _ | with_reducible refine Below.grown ?_ (by assumption) (by first | omega | (simp; done) | (simp; omega)) (by intro k hk; cases hk; omega) | with_reducible refine Below.trans ?_ (Below.mono (by assumption) (by first | omega | (simp; done) | (simp; omega)))))⟩
end Go.Proofs.Ytjanjaabcinkiaa
