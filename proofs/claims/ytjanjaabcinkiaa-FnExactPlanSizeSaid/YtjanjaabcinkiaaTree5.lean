/- PlanSize, countParts, cutsOf, CutsOf; no statement is proved here. -/
import Derived.Test.YtjanjaabcinkiaaTree4
namespace Go.Proofs.Ytjanjaabcinkiaa
open Go.ChangeShapes Go.WideShapes Go.ChangeAt Go.RowKit Go.Deep
set_option linter.unusedVariables false
set_option linter.unusedSimpArgs false

theorem spec_PlanSize_c {t : Pl} {B : Nat} {v : Value} {w : World} (h : KT B w t v) : Calls Try.prog 19 #[(.agg #[.int .i64 t.op, .int .i64 t.pos, .int .i64 t.pane, .bool t.tu, v])] w (Rt (.int .i64 (psz t)) w) := by
  have HC := fun W (hb : Below w.heap.size w W) => spec_planSize_c t B v W (KT.below hb _ _ h)
  obtain ⟨x0, hx0⟩ : ∃ x, x = t.op := ⟨_, rfl⟩
  obtain ⟨x1, hx1⟩ : ∃ x, x = t.pos := ⟨_, rfl⟩
  obtain ⟨x2, hx2⟩ : ∃ x, x = t.pane := ⟨_, rfl⟩
  obtain ⟨x3, hx3⟩ : ∃ x, x = t.tu := ⟨_, rfl⟩
  rw [← hx0, ← hx1, ← hx2, ← hx3] at HC ⊢
  clear hx0 hx1 hx2 hx3 h
  go_enter Try.func19, Try.ntmps19
  go_wp2_with (go_at_call 53; refine (HC _ (by repeat' (first | with_reducible exact Below.refl _ _ | with_reducible refine Below.alloc ?_ (by first | omega | (simp; done) | (simp; omega)) _ | with_reducible refine Below.drew ?_ | with_reducible refine below_drewN ?_ _ | with_reducible refine Below.setCell ?_ (by first | omega | (simp; done) | (simp; omega)) _ | with_reducible refine Below.grown ?_ (by assumption) (by first | omega | (simp; done) | (simp; omega)) (by intro k hk; cases hk; omega) | with_reducible refine Below.trans ?_ (Below.mono (by assumption) (by first | omega | (simp; done) | (simp; omega)))))).mono ?_; rintro e w2 ⟨rfl, hb2⟩)
  go_ret
  exact ⟨rfl, (by repeat' (first | with_reducible exact Below.refl _ _ | with_reducible refine Below.alloc ?_ (by first | omega | (simp; done) | (simp; omega)) _ | with_reducible refine Below.drew ?_ | with_reducible refine below_drewN ?_ _ | with_reducible refine Below.setCell ?_ (by first | omega | (simp; done) | (simp; omega)) _ | with_reducible refine Below.grown ?_ (by assumption) (by first | omega | (simp; done) | (simp; omega)) (by intro k hk; cases hk; omega) | with_reducible refine Below.trans ?_ (Below.mono (by assumption) (by first | omega | (simp; done) | (simp; omega)))))⟩
def cpV (t : Pl) (room : Int) : Int := if psz t ≤ room then psz t else -1
/-- what countParts does with a plan -/
def CpP (t : Pl) : Prop := ∀ (B : Nat) (v : Value) (w : World) (room : Int), KT B w t v → -1000 ≤ room → room ≤ 255 → Calls Try.prog 57 #[(.agg #[.int .i64 t.op, .int .i64 t.pos, .int .i64 t.pane, .bool t.tu, v]), (.int .i64 room)] w (Rt (.int .i64 (cpV t room)) w)
theorem cpV_neg {t : Pl} {room : Int} (h : psz t = -1) : cpV t room = -1 := by unfold cpV; rw [h]; split <;> rfl
theorem cpV_low {t : Pl} {room : Int} (h : room < 1) : cpV t room = -1 := by
  unfold cpV
  have := psz_bd t
  split <;> omega
theorem cpV_bd (t : Pl) (room : Int) : cpV t room = -1 ∨ (cpV t room = psz t ∧ psz t ≤ room ∧ 1 ≤ psz t ∧ psz t % 2 = 1) := by
  unfold cpV
  have := psz_bd t
  split <;> omega
set_option maxHeartbeats 4000000 in
theorem impl_countParts_c : ∀ t, CpP t := by
  refine Pl.ind fun t ih => ?_
  intro B v w room h hl hu
  obtain ⟨x0, hx0⟩ : ∃ x, t.op = x := ⟨_, rfl⟩
  obtain ⟨x1, hx1⟩ : ∃ x, t.pos = x := ⟨_, rfl⟩
  obtain ⟨x2, hx2⟩ : ∃ x, t.pane = x := ⟨_, rfl⟩
  obtain ⟨x3, hx3⟩ : ∃ x, t.tu = x := ⟨_, rfl⟩
  have hform := h.form
  obtain ⟨n, hn⟩ : ∃ n, t.n = n := ⟨_, rfl⟩
  rw [hn] at hform
  obtain ⟨hm, p, cap, rfl, -⟩ := hform
  rw [hx0, hx1, hx2, hx3]
  by_cases hlow : room < 1
  · have hg : Hid (cpV t room = -1) := cpV_low hlow
    rw [hg.out]
    have d1 : decide (room < 1) = true := decide_eq_true hlow
    clear hx0 hx1 hx2 hx3 ih h
    go_enter Try.func57, Try.ntmps57
    go_wp2
    go_ret
    exact ⟨rfl, (by repeat' (first | with_reducible exact Below.refl _ _ | with_reducible refine Below.alloc ?_ (by first | omega | (simp; done) | (simp; omega)) _ | with_reducible refine Below.drew ?_ | with_reducible refine below_drewN ?_ _ | with_reducible refine Below.setCell ?_ (by first | omega | (simp; done) | (simp; omega)) _ | with_reducible refine Below.grown ?_ (by assumption) (by first | omega | (simp; done) | (simp; omega)) (by intro k hk; cases hk; omega) | with_reducible refine Below.trans ?_ (Below.mono (by assumption) (by first | omega | (simp; done) | (simp; omega)))))⟩
  have d1 : decide (room < 1) = false := decide_eq_false hlow
  cases hc : isC x0
  · have hc' : isC t.op = false := by rw [hx0]; exact hc
    by_cases h2 : n = 0 ∧ x1 = 0 ∧ (x0 = 1 ∨ (x0 = 0 ∧ x2 = 0 ∧ x3 = false))
    · have hg : Hid (cpV t room = 1) := by
        show _ = _
        unfold cpV
        rw [psz_leaf hc' (by rw [hn, hx1, hx0, hx2, hx3]; exact h2), if_pos (by omega)]
      rw [hg.out]
      obtain ⟨h3, h4, h5⟩ := h2
      clear hc hc' hx0 hx1 hx2 hx3 ih h
      subst h3 h4
      rcases h5 with h5 | ⟨h5, h6, h7⟩
      · subst h5
        go_enter Try.func57, Try.ntmps57
        go_wp2
        go_ret
        exact ⟨rfl, (by repeat' (first | with_reducible exact Below.refl _ _ | with_reducible refine Below.alloc ?_ (by first | omega | (simp; done) | (simp; omega)) _ | with_reducible refine Below.drew ?_ | with_reducible refine below_drewN ?_ _ | with_reducible refine Below.setCell ?_ (by first | omega | (simp; done) | (simp; omega)) _ | with_reducible refine Below.grown ?_ (by assumption) (by first | omega | (simp; done) | (simp; omega)) (by intro k hk; cases hk; omega) | with_reducible refine Below.trans ?_ (Below.mono (by assumption) (by first | omega | (simp; done) | (simp; omega)))))⟩
      · subst h5 h6 h7
        go_enter Try.func57, Try.ntmps57
        go_wp2
        go_ret
        exact ⟨rfl, (by repeat' (first | with_reducible exact Below.refl _ _ | with_reducible refine Below.alloc ?_ (by first | omega | (simp; done) | (simp; omega)) _ | with_reducible refine Below.drew ?_ | with_reducible refine below_drewN ?_ _ | with_reducible refine Below.setCell ?_ (by first | omega | (simp; done) | (simp; omega)) _ | with_reducible refine Below.grown ?_ (by assumption) (by first | omega | (simp; done) | (simp; omega)) (by intro k hk; cases hk; omega) | with_reducible refine Below.trans ?_ (Below.mono (by assumption) (by first | omega | (simp; done) | (simp; omega)))))⟩
    · have hg : Hid (cpV t room = -1) := cpV_neg (psz_bad hc' (by rw [hn, hx1, hx0, hx2, hx3]; exact h2))
      rw [hg.out]
      have h9 : x0 ≠ 2 ∧ x0 ≠ 3 := by unfold isC at hc; have := of_decide_eq_false hc; omega
      have h3 : (x0 = 0 ∧ (n ≠ 0 ∨ x1 ≠ 0 ∨ x2 ≠ 0 ∨ x3 = true)) ∨ (x0 = 1 ∧ (n ≠ 0 ∨ x1 ≠ 0)) ∨ (x0 ≠ 0 ∧ x0 ≠ 1) := by
        cases x3 <;> simp at h2 ⊢ <;> omega
      clear hc hc' hx0 hx1 hx2 hx3 ih h h2
      rcases h3 with ⟨h3, h4 | h4 | h4 | h4⟩ | ⟨h3, h4 | h4⟩ | ⟨h3, h4⟩
      · have e1 : ((n : Int) != 0) = true := by simp; omega
        subst h3
        go_enter Try.func57, Try.ntmps57
        go_wp2
        all_goals go_ret
        all_goals exact ⟨rfl, (by repeat' (first | with_reducible exact Below.refl _ _ | with_reducible refine Below.alloc ?_ (by first | omega | (simp; done) | (simp; omega)) _ | with_reducible refine Below.drew ?_ | with_reducible refine below_drewN ?_ _ | with_reducible refine Below.setCell ?_ (by first | omega | (simp; done) | (simp; omega)) _ | with_reducible refine Below.grown ?_ (by assumption) (by first | omega | (simp; done) | (simp; omega)) (by intro k hk; cases hk; omega) | with_reducible refine Below.trans ?_ (Below.mono (by assumption) (by first | omega | (simp; done) | (simp; omega)))))⟩
      · have e1 : (x1 != 0) = true := by simp; omega
        subst h3
        go_enter Try.func57, Try.ntmps57
        go_wp2
        all_goals go_ret
        all_goals exact ⟨rfl, (by repeat' (first | with_reducible exact Below.refl _ _ | with_reducible refine Below.alloc ?_ (by first | omega | (simp; done) | (simp; omega)) _ | with_reducible refine Below.drew ?_ | with_reducible refine below_drewN ?_ _ | with_reducible refine Below.setCell ?_ (by first | omega | (simp; done) | (simp; omega)) _ | with_reducible refine Below.grown ?_ (by assumption) (by first | omega | (simp; done) | (simp; omega)) (by intro k hk; cases hk; omega) | with_reducible refine Below.trans ?_ (Below.mono (by assumption) (by first | omega | (simp; done) | (simp; omega)))))⟩
      · have e1 : (x2 != 0) = true := by simp; omega
        subst h3
        go_enter Try.func57, Try.ntmps57
        go_wp2
        all_goals go_ret
        all_goals exact ⟨rfl, (by repeat' (first | with_reducible exact Below.refl _ _ | with_reducible refine Below.alloc ?_ (by first | omega | (simp; done) | (simp; omega)) _ | with_reducible refine Below.drew ?_ | with_reducible refine below_drewN ?_ _ | with_reducible refine Below.setCell ?_ (by first | omega | (simp; done) | (simp; omega)) _ | with_reducible refine Below.grown ?_ (by assumption) (by first | omega | (simp; done) | (simp; omega)) (by intro k hk; cases hk; omega) | with_reducible refine Below.trans ?_ (Below.mono (by assumption) (by first | omega | (simp; done) | (simp; omega)))))⟩
      · subst h3 h4
        go_enter Try.func57, Try.ntmps57
        go_wp2
        all_goals go_ret
        all_goals exact ⟨rfl, (by repeat' (first | with_reducible exact Below.refl _ _ | with_reducible refine Below.alloc ?_ (by first | omega | (simp; done) | (simp; omega)) _ | with_reducible refine Below.drew ?_ | with_reducible refine below_drewN ?_ _ | with_reducible refine Below.setCell ?_ (by first | omega | (simp; done) | (simp; omega)) _ | with_reducible refine Below.grown ?_ (by assumption) (by first | omega | (simp; done) | (simp; omega)) (by intro k hk; cases hk; omega) | with_reducible refine Below.trans ?_ (Below.mono (by assumption) (by first | omega | (simp; done) | (simp; omega)))))⟩
      · have e1 : ((n : Int) != 0) = true := by simp; omega
        subst h3
        go_enter Try.func57, Try.ntmps57
        go_wp2
        all_goals go_ret
        all_goals exact ⟨rfl, (by repeat' (first | with_reducible exact Below.refl _ _ | with_reducible refine Below.alloc ?_ (by first | omega | (simp; done) | (simp; omega)) _ | with_reducible refine Below.drew ?_ | with_reducible refine below_drewN ?_ _ | with_reducible refine Below.setCell ?_ (by first | omega | (simp; done) | (simp; omega)) _ | with_reducible refine Below.grown ?_ (by assumption) (by first | omega | (simp; done) | (simp; omega)) (by intro k hk; cases hk; omega) | with_reducible refine Below.trans ?_ (Below.mono (by assumption) (by first | omega | (simp; done) | (simp; omega)))))⟩
      · have e1 : (x1 != 0) = true := by simp; omega
        subst h3
        go_enter Try.func57, Try.ntmps57
        go_wp2
        all_goals go_ret
        all_goals exact ⟨rfl, (by repeat' (first | with_reducible exact Below.refl _ _ | with_reducible refine Below.alloc ?_ (by first | omega | (simp; done) | (simp; omega)) _ | with_reducible refine Below.drew ?_ | with_reducible refine below_drewN ?_ _ | with_reducible refine Below.setCell ?_ (by first | omega | (simp; done) | (simp; omega)) _ | with_reducible refine Below.grown ?_ (by assumption) (by first | omega | (simp; done) | (simp; omega)) (by intro k hk; cases hk; omega) | with_reducible refine Below.trans ?_ (Below.mono (by assumption) (by first | omega | (simp; done) | (simp; omega)))))⟩
      · obtain ⟨h5, h6⟩ := h9
        have e1 : (x0 == 0) = false := by simp; omega
        have e2 : (x0 == 1) = false := by simp; omega
        have e3 : (x0 == 2) = false := by simp; omega
        have e4 : (x0 == 3) = false := by simp; omega
        go_enter Try.func57, Try.ntmps57
        go_wp2
        all_goals go_ret
        all_goals exact ⟨rfl, (by repeat' (first | with_reducible exact Below.refl _ _ | with_reducible refine Below.alloc ?_ (by first | omega | (simp; done) | (simp; omega)) _ | with_reducible refine Below.drew ?_ | with_reducible refine below_drewN ?_ _ | with_reducible refine Below.setCell ?_ (by first | omega | (simp; done) | (simp; omega)) _ | with_reducible refine Below.grown ?_ (by assumption) (by first | omega | (simp; done) | (simp; omega)) (by intro k hk; cases hk; omega) | with_reducible refine Below.trans ?_ (Below.mono (by assumption) (by first | omega | (simp; done) | (simp; omega)))))⟩
  · have hc' : isC t.op = true := by rw [hx0]; exact hc
    have h9 : x0 = 2 ∨ x0 = 3 := by unfold isC at hc; exact of_decide_eq_true hc
    by_cases h2 : n = 2 ∧ x2 = 0 ∧ x3 = false
    · obtain ⟨h3, h4, h5⟩ := h2
      have h2' : t.n = 2 ∧ t.pane = 0 ∧ t.tu = false := ⟨hn.trans h3, hx2.trans h4, hx3.trans h5⟩
      have hP := psz_cut hc' h2'
      have hr0 := h.rsl (by omega)
      obtain ⟨p', cap', kv, he, hk, hr⟩ := hr0
      rw [hn] at he hk hr ih
      simp only [Value.slice.injEq, true_and] at he
      obtain ⟨rfl, rfl⟩ := he
      subst h3 h4 h5
      obtain ⟨b, off, rfl, hbb, hR⟩ := hr 0 (by omega)
      obtain ⟨c0, c1, c2, c3, c4⟩ := plan_cells hR (show 0 < 2 by omega)
      obtain ⟨d0, d1', d2, d3, d4⟩ := plan_cells hR (show 1 < 2 by omega)
      have hbk : b < w.heap.size := hR.lt
      have HC0 := fun W r (hb : Below w.heap.size w W) => ih 0 (by omega) B (kv 0) W r (KT.below hb _ _ (hk 0 (by omega)))
      have HC1 := fun W r (hb : Below w.heap.size w W) => ih 1 (by omega) B (kv 1) W r (KT.below hb _ _ (hk 1 (by omega)))
      have b0 := cpV_bd (t.kid 0) (room - 1)
      have q0 := psz_bd (t.kid 0)
      have q1 := psz_bd (t.kid 1)
      have b1 := cpV_bd (t.kid 1) (room - 1 - psz (t.kid 0))
      have hcp : cpV t room = if psz t ≤ room then psz t else -1 := rfl
      have hcp0 : cpV (t.kid 0) (room - 1) = if psz (t.kid 0) ≤ room - 1 then psz (t.kid 0) else -1 := rfl
      have hcp1 : cpV (t.kid 1) (room - 1 - psz (t.kid 0)) = if psz (t.kid 1) ≤ room - 1 - psz (t.kid 0) then psz (t.kid 1) else -1 := rfl
      obtain ⟨F, hF⟩ : ∃ F, F = cpV (t.kid 0) (room - 1) := ⟨_, rfl⟩
      obtain ⟨G, hG⟩ : ∃ G, G = cpV (t.kid 1) (room - 1 - psz (t.kid 0)) := ⟨_, rfl⟩
      have HC0' := fun W (hb : Below w.heap.size w W) => HC0 W (room - 1) hb (by omega) (by omega)
      rw [← hF] at HC0' b0 hcp0
      rw [← hG] at b1 hcp1
      obtain ⟨P0, hP0⟩ : ∃ P, P = psz (t.kid 0) := ⟨_, rfl⟩
      obtain ⟨P1, hP1⟩ : ∃ P, P = psz (t.kid 1) := ⟨_, rfl⟩
      rw [← hP0] at b0 b1 q0 hP hG hcp0 hcp1
      rw [← hP1] at b1 q1 hP hcp1
      obtain ⟨T, hT⟩ : ∃ T, T = cpV t room := ⟨_, rfl⟩
      obtain ⟨PT, hPT⟩ : ∃ P, P = psz t := ⟨_, rfl⟩
      rw [← hT] at hcp ⊢
      rw [← hPT] at hcp hP
      have HC1' := fun W (hb : Below w.heap.size w W) (h0 : -1000 ≤ room - 1 - P0) => HC1 W (room - 1 - P0) hb h0 (by omega)
      rw [← hG] at HC1'
      clear HC0 HC1
      obtain ⟨y0, hy0⟩ : ∃ x, x = (t.kid 0).op := ⟨_, rfl⟩
      obtain ⟨y1, hy1⟩ : ∃ x, x = (t.kid 0).pos := ⟨_, rfl⟩
      obtain ⟨y2, hy2⟩ : ∃ x, x = (t.kid 0).pane := ⟨_, rfl⟩
      obtain ⟨y3, hy3⟩ : ∃ x, x = (t.kid 0).tu := ⟨_, rfl⟩
      obtain ⟨y4, hy4⟩ : ∃ x, x = kv 0 := ⟨_, rfl⟩
      obtain ⟨z0, hz0⟩ : ∃ x, x = (t.kid 1).op := ⟨_, rfl⟩
      obtain ⟨z1, hz1⟩ : ∃ x, x = (t.kid 1).pos := ⟨_, rfl⟩
      obtain ⟨z2, hz2⟩ : ∃ x, x = (t.kid 1).pane := ⟨_, rfl⟩
      obtain ⟨z3, hz3⟩ : ∃ x, x = (t.kid 1).tu := ⟨_, rfl⟩
      obtain ⟨z4, hz4⟩ : ∃ x, x = kv 1 := ⟨_, rfl⟩
      rw [← hy0, ← hy1, ← hy2, ← hy3, ← hy4] at HC0'
      rw [← hz0, ← hz1, ← hz2, ← hz3, ← hz4] at HC1'
      rw [← hy0] at c0
      rw [← hy1] at c1
      rw [← hy2] at c2
      rw [← hy3] at c3
      rw [← hy4] at c4
      rw [← hz0] at d0
      rw [← hz1] at d1'
      rw [← hz2] at d2
      rw [← hz3] at d3
      rw [← hz4] at d4
      simp only [Nat.zero_mul, Nat.add_zero, Nat.one_mul] at c0 c1 c2 c3 c4 d0 d1' d2 d3 d4
      clear hy0 hy1 hy2 hy3 hy4 hz0 hz1 hz2 hz3 hz4 hP0 hP1 hT hPT hF hG hc hc' hx0 hx1 hx2 hx3 ih h hk hr hR h2' hn
      have s1 : IntKind.i64.wrap (room - 1) = room - 1 := IntWalk.i64_in _ (by omega)
      by_cases hf : F < 0
      · have hg : T = -1 := by
          rw [hcp]; split at hP <;> split at hcp0 <;> split <;> omega
        have hf1 : F = -1 := by omega
        subst hg hf1
        clear hP hcp hcp0 hcp1 b0 b1 q0 q1
        rcases h9 with h9 | h9
        all_goals subst h9
        all_goals go_enter Try.func57, Try.ntmps57
        all_goals go_wp2_with (go_at_call 57; refine (HC0' _ (by repeat' (first | with_reducible exact Below.refl _ _ | with_reducible refine Below.alloc ?_ (by first | omega | (simp; done) | (simp; omega)) _ | with_reducible refine Below.drew ?_ | with_reducible refine below_drewN ?_ _ | with_reducible refine Below.setCell ?_ (by first | omega | (simp; done) | (simp; omega)) _ | with_reducible refine Below.grown ?_ (by assumption) (by first | omega | (simp; done) | (simp; omega)) (by intro k hk; cases hk; omega) | with_reducible refine Below.trans ?_ (Below.mono (by assumption) (by first | omega | (simp; done) | (simp; omega)))))).mono ?_; rintro e w2 ⟨rfl, hb2⟩)
        all_goals go_ret
        all_goals exact ⟨rfl, (by repeat' (first | with_reducible exact Below.refl _ _ | with_reducible refine Below.alloc ?_ (by first | omega | (simp; done) | (simp; omega)) _ | with_reducible refine Below.drew ?_ | with_reducible refine below_drewN ?_ _ | with_reducible refine Below.setCell ?_ (by first | omega | (simp; done) | (simp; omega)) _ | with_reducible refine Below.grown ?_ (by assumption) (by first | omega | (simp; done) | (simp; omega)) (by intro k hk; cases hk; omega) | with_reducible refine Below.trans ?_ (Below.mono (by assumption) (by first | omega | (simp; done) | (simp; omega)))))⟩
      · have hf1 : F = P0 ∧ 1 ≤ P0 ∧ P0 ≤ room - 1 := by omega
        obtain ⟨rfl, hf2, hf3⟩ := hf1
        have HC1'' := fun W (hb : Below w.heap.size w W) => HC1' W hb (by omega)
        have df : decide (F < 0) = false := decide_eq_false hf
        have s2 : IntKind.i64.wrap (room - 1 - F) = room - 1 - F := IntWalk.i64_in _ (by omega)
        have hbk1 : b < w.heap.size + 1 := by omega
        have hbne : ¬ (b = w.heap.size) := by omega
        have hbne2 : ¬ (w.heap.size = b) := by omega
        by_cases hG : G < 0
        · have hg : T = -1 := by
            rw [hcp]; split at hP <;> split at hcp1 <;> split <;> omega
          have hG1 : G = -1 := by omega
          subst hg hG1
          clear hP hcp hcp0 hcp1 b0 b1 q0 q1 hf
          rcases h9 with h9 | h9
          · subst h9
            go_enter Try.func57, Try.ntmps57
            go_wp2_with fail
            go_at_call 57
            refine (HC0' _ (by repeat' (first | with_reducible exact Below.refl _ _ | with_reducible refine Below.alloc ?_ (by first | omega | (simp; done) | (simp; omega)) _ | with_reducible refine Below.drew ?_ | with_reducible refine below_drewN ?_ _ | with_reducible refine Below.setCell ?_ (by first | omega | (simp; done) | (simp; omega)) _ | with_reducible refine Below.grown ?_ (by assumption) (by first | omega | (simp; done) | (simp; omega)) (by intro k hk; cases hk; omega) | with_reducible refine Below.trans ?_ (Below.mono (by assumption) (by first | omega | (simp; done) | (simp; omega)))))).mono ?_
            rintro e w1 ⟨rfl, hb1⟩
            obtain ⟨hc1, hf1, -, hz1⟩ := bcell hb1
            (try simp at hz1)
            (try (have y1 : w.heap.size ≤ w1.heap.size := by omega))
            (try (have z1_0_0 : w.heap.size < w1.heap.size := by omega))
            (try (have z1_0_1 : w.heap.size + 1 < w1.heap.size := by omega))
            (try (have z1_0_2 : w.heap.size + 1 + 1 < w1.heap.size := by omega))
            (try (have z1_0_3 : w.heap.size + 1 + 1 + 1 < w1.heap.size := by omega))
            go_wp2_with fail
            go_at_call 57
            refine (HC1'' _ (by repeat' (first | with_reducible exact Below.refl _ _ | with_reducible refine Below.alloc ?_ (by first | omega | (simp; done) | (simp; omega)) _ | with_reducible refine Below.drew ?_ | with_reducible refine below_drewN ?_ _ | with_reducible refine Below.setCell ?_ (by first | omega | (simp; done) | (simp; omega)) _ | with_reducible refine Below.grown ?_ (by assumption) (by first | omega | (simp; done) | (simp; omega)) (by intro k hk; cases hk; omega) | with_reducible refine Below.trans ?_ (Below.mono (by assumption) (by first | omega | (simp; done) | (simp; omega)))))).mono ?_
            rintro e w2 ⟨rfl, hb2⟩
            obtain ⟨hc2, hf2, -, hz2⟩ := bcell hb2
            (try simp at hz2)
            (try (have y2 : w.heap.size ≤ w2.heap.size := by omega))
            (try (have z2_0_0 : w.heap.size < w2.heap.size := by omega))
            (try (have z2_0_1 : w.heap.size + 1 < w2.heap.size := by omega))
            (try (have z2_0_2 : w.heap.size + 1 + 1 < w2.heap.size := by omega))
            (try (have z2_0_3 : w.heap.size + 1 + 1 + 1 < w2.heap.size := by omega))
            (try (have z2_1_0 : w1.heap.size < w2.heap.size := by omega))
            (try (have z2_1_1 : w1.heap.size + 1 < w2.heap.size := by omega))
            go_wp2_with fail
            go_ret
            exact ⟨rfl, (by repeat' (first | with_reducible exact Below.refl _ _ | with_reducible refine Below.alloc ?_ (by first | omega | (simp; done) | (simp; omega)) _ | with_reducible refine Below.drew ?_ | with_reducible refine below_drewN ?_ _ | with_reducible refine Below.setCell ?_ (by first | omega | (simp; done) | (simp; omega)) _ | with_reducible refine Below.grown ?_ (by assumption) (by first | omega | (simp; done) | (simp; omega)) (by intro k hk; cases hk; omega) | with_reducible refine Below.trans ?_ (Below.mono (by assumption) (by first | omega | (simp; done) | (simp; omega)))))⟩
          · subst h9
            go_enter Try.func57, Try.ntmps57
            go_wp2_with fail
            go_at_call 57
            refine (HC0' _ (by repeat' (first | with_reducible exact Below.refl _ _ | with_reducible refine Below.alloc ?_ (by first | omega | (simp; done) | (simp; omega)) _ | with_reducible refine Below.drew ?_ | with_reducible refine below_drewN ?_ _ | with_reducible refine Below.setCell ?_ (by first | omega | (simp; done) | (simp; omega)) _ | with_reducible refine Below.grown ?_ (by assumption) (by first | omega | (simp; done) | (simp; omega)) (by intro k hk; cases hk; omega) | with_reducible refine Below.trans ?_ (Below.mono (by assumption) (by first | omega | (simp; done) | (simp; omega)))))).mono ?_
            rintro e w1 ⟨rfl, hb1⟩
            obtain ⟨hc1, hf1, -, hz1⟩ := bcell hb1
            (try simp at hz1)
            (try (have y1 : w.heap.size ≤ w1.heap.size := by omega))
            (try (have z1_0_0 : w.heap.size < w1.heap.size := by omega))
            (try (have z1_0_1 : w.heap.size + 1 < w1.heap.size := by omega))
            (try (have z1_0_2 : w.heap.size + 1 + 1 < w1.heap.size := by omega))
            (try (have z1_0_3 : w.heap.size + 1 + 1 + 1 < w1.heap.size := by omega))
            go_wp2_with fail
            go_at_call 57
            refine (HC1'' _ (by repeat' (first | with_reducible exact Below.refl _ _ | with_reducible refine Below.alloc ?_ (by first | omega | (simp; done) | (simp; omega)) _ | with_reducible refine Below.drew ?_ | with_reducible refine below_drewN ?_ _ | with_reducible refine Below.setCell ?_ (by first | omega | (simp; done) | (simp; omega)) _ | with_reducible refine Below.grown ?_ (by assumption) (by first | omega | (simp; done) | (simp; omega)) (by intro k hk; cases hk; omega) | with_reducible refine Below.trans ?_ (Below.mono (by assumption) (by first | omega | (simp; done) | (simp; omega)))))).mono ?_
            rintro e w2 ⟨rfl, hb2⟩
            obtain ⟨hc2, hf2, -, hz2⟩ := bcell hb2
            (try simp at hz2)
            (try (have y2 : w.heap.size ≤ w2.heap.size := by omega))
            (try (have z2_0_0 : w.heap.size < w2.heap.size := by omega))
            (try (have z2_0_1 : w.heap.size + 1 < w2.heap.size := by omega))
            (try (have z2_0_2 : w.heap.size + 1 + 1 < w2.heap.size := by omega))
            (try (have z2_0_3 : w.heap.size + 1 + 1 + 1 < w2.heap.size := by omega))
            (try (have z2_1_0 : w1.heap.size < w2.heap.size := by omega))
            (try (have z2_1_1 : w1.heap.size + 1 < w2.heap.size := by omega))
            go_wp2_with fail
            go_ret
            exact ⟨rfl, (by repeat' (first | with_reducible exact Below.refl _ _ | with_reducible refine Below.alloc ?_ (by first | omega | (simp; done) | (simp; omega)) _ | with_reducible refine Below.drew ?_ | with_reducible refine below_drewN ?_ _ | with_reducible refine Below.setCell ?_ (by first | omega | (simp; done) | (simp; omega)) _ | with_reducible refine Below.grown ?_ (by assumption) (by first | omega | (simp; done) | (simp; omega)) (by intro k hk; cases hk; omega) | with_reducible refine Below.trans ?_ (Below.mono (by assumption) (by first | omega | (simp; done) | (simp; omega)))))⟩
        · have hG2 : G = P1 ∧ 1 ≤ P1 ∧ P1 ≤ room - 1 - F := by omega
          have hg : T = 1 + F + G := by
            rw [hcp]; split at hP <;> split at hcp1 <;> split <;> omega
          have dG : decide (G < 0) = false := decide_eq_false hG
          have s3 : IntKind.i64.wrap (1 + F) = 1 + F := IntWalk.i64_in _ (by omega)
          have s4 : IntKind.i64.wrap (1 + F + G) = 1 + F + G := IntWalk.i64_in _ (by omega)
          have HG := mkhid hg
          rw [hg]
          clear hP hcp hcp0 hcp1 b0 b1 q0 q1 hf hG hG2 hg
          rcases h9 with h9 | h9
          · subst h9
            go_enter Try.func57, Try.ntmps57
            go_wp2_with fail
            go_at_call 57
            refine (HC0' _ (by repeat' (first | with_reducible exact Below.refl _ _ | with_reducible refine Below.alloc ?_ (by first | omega | (simp; done) | (simp; omega)) _ | with_reducible refine Below.drew ?_ | with_reducible refine below_drewN ?_ _ | with_reducible refine Below.setCell ?_ (by first | omega | (simp; done) | (simp; omega)) _ | with_reducible refine Below.grown ?_ (by assumption) (by first | omega | (simp; done) | (simp; omega)) (by intro k hk; cases hk; omega) | with_reducible refine Below.trans ?_ (Below.mono (by assumption) (by first | omega | (simp; done) | (simp; omega)))))).mono ?_
            rintro e w1 ⟨rfl, hb1⟩
            obtain ⟨hc1, hf1, -, hz1⟩ := bcell hb1
            (try simp at hz1)
            (try (have y1 : w.heap.size ≤ w1.heap.size := by omega))
            (try (have z1_0_0 : w.heap.size < w1.heap.size := by omega))
            (try (have z1_0_1 : w.heap.size + 1 < w1.heap.size := by omega))
            (try (have z1_0_2 : w.heap.size + 1 + 1 < w1.heap.size := by omega))
            (try (have z1_0_3 : w.heap.size + 1 + 1 + 1 < w1.heap.size := by omega))
            go_wp2_with fail
            go_at_call 57
            refine (HC1'' _ (by repeat' (first | with_reducible exact Below.refl _ _ | with_reducible refine Below.alloc ?_ (by first | omega | (simp; done) | (simp; omega)) _ | with_reducible refine Below.drew ?_ | with_reducible refine below_drewN ?_ _ | with_reducible refine Below.setCell ?_ (by first | omega | (simp; done) | (simp; omega)) _ | with_reducible refine Below.grown ?_ (by assumption) (by first | omega | (simp; done) | (simp; omega)) (by intro k hk; cases hk; omega) | with_reducible refine Below.trans ?_ (Below.mono (by assumption) (by first | omega | (simp; done) | (simp; omega)))))).mono ?_
            rintro e w2 ⟨rfl, hb2⟩
            obtain ⟨hc2, hf2, -, hz2⟩ := bcell hb2
            (try simp at hz2)
            (try (have y2 : w.heap.size ≤ w2.heap.size := by omega))
            (try (have z2_0_0 : w.heap.size < w2.heap.size := by omega))
            (try (have z2_0_1 : w.heap.size + 1 < w2.heap.size := by omega))
            (try (have z2_0_2 : w.heap.size + 1 + 1 < w2.heap.size := by omega))
            (try (have z2_0_3 : w.heap.size + 1 + 1 + 1 < w2.heap.size := by omega))
            (try (have z2_1_0 : w1.heap.size < w2.heap.size := by omega))
            (try (have z2_1_1 : w1.heap.size + 1 < w2.heap.size := by omega))
            go_wp2_with fail
            go_ret
            exact ⟨rfl, (by repeat' (first | with_reducible exact Below.refl _ _ | with_reducible refine Below.alloc ?_ (by first | omega | (simp; done) | (simp; omega)) _ | with_reducible refine Below.drew ?_ | with_reducible refine below_drewN ?_ _ | with_reducible refine Below.setCell ?_ (by first | omega | (simp; done) | (simp; omega)) _ | with_reducible refine Below.grown ?_ (by assumption) (by first | omega | (simp; done) | (simp; omega)) (by intro k hk; cases hk; omega) | with_reducible refine Below.trans ?_ (Below.mono (by assumption) (by first | omega | (simp; done) | (simp; omega)))))⟩
          · subst h9
            go_enter Try.func57, Try.ntmps57
            go_wp2_with fail
            go_at_call 57
            refine (HC0' _ (by repeat' (first | with_reducible exact Below.refl _ _ | with_reducible refine Below.alloc ?_ (by first | omega | (simp; done) | (simp; omega)) _ | with_reducible refine Below.drew ?_ | with_reducible refine below_drewN ?_ _ | with_reducible refine Below.setCell ?_ (by first | omega | (simp; done) | (simp; omega)) _ | with_reducible refine Below.grown ?_ (by assumption) (by first | omega | (simp; done) | (simp; omega)) (by intro k hk; cases hk; omega) | with_reducible refine Below.trans ?_ (Below.mono (by assumption) (by first | omega | (simp; done) | (simp; omega)))))).mono ?_
            rintro e w1 ⟨rfl, hb1⟩
            obtain ⟨hc1, hf1, -, hz1⟩ := bcell hb1
            (try simp at hz1)
            (try (have y1 : w.heap.size ≤ w1.heap.size := by omega))
            (try (have z1_0_0 : w.heap.size < w1.heap.size := by omega))
            (try (have z1_0_1 : w.heap.size + 1 < w1.heap.size := by omega))
            (try (have z1_0_2 : w.heap.size + 1 + 1 < w1.heap.size := by omega))
            (try (have z1_0_3 : w.heap.size + 1 + 1 + 1 < w1.heap.size := by omega))
            go_wp2_with fail
            go_at_call 57
            refine (HC1'' _ (by repeat' (first | with_reducible exact Below.refl _ _ | with_reducible refine Below.alloc ?_ (by first | omega | (simp; done) | (simp; omega)) _ | with_reducible refine Below.drew ?_ | with_reducible refine below_drewN ?_ _ | with_reducible refine Below.setCell ?_ (by first | omega | (simp; done) | (simp; omega)) _ | with_reducible refine Below.grown ?_ (by assumption) (by first | omega | (simp; done) | (simp; omega)) (by intro k hk; cases hk; omega) | with_reducible refine Below.trans ?_ (Below.mono (by assumption) (by first | omega | (simp; done) | (simp; omega)))))).mono ?_
            rintro e w2 ⟨rfl, hb2⟩
            obtain ⟨hc2, hf2, -, hz2⟩ := bcell hb2
            (try simp at hz2)
            (try (have y2 : w.heap.size ≤ w2.heap.size := by omega))
            (try (have z2_0_0 : w.heap.size < w2.heap.size := by omega))
            (try (have z2_0_1 : w.heap.size + 1 < w2.heap.size := by omega))
            (try (have z2_0_2 : w.heap.size + 1 + 1 < w2.heap.size := by omega))
            (try (have z2_0_3 : w.heap.size + 1 + 1 + 1 < w2.heap.size := by omega))
            (try (have z2_1_0 : w1.heap.size < w2.heap.size := by omega))
            (try (have z2_1_1 : w1.heap.size + 1 < w2.heap.size := by omega))
            go_wp2_with fail
            go_ret
            exact ⟨rfl, (by repeat' (first | with_reducible exact Below.refl _ _ | with_reducible refine Below.alloc ?_ (by first | omega | (simp; done) | (simp; omega)) _ | with_reducible refine Below.drew ?_ | with_reducible refine below_drewN ?_ _ | with_reducible refine Below.setCell ?_ (by first | omega | (simp; done) | (simp; omega)) _ | with_reducible refine Below.grown ?_ (by assumption) (by first | omega | (simp; done) | (simp; omega)) (by intro k hk; cases hk; omega) | with_reducible refine Below.trans ?_ (Below.mono (by assumption) (by first | omega | (simp; done) | (simp; omega)))))⟩
    · have hg : Hid (cpV t room = -1) := cpV_neg (psz_badcut hc' (by rw [hn, hx2, hx3]; exact h2))
      rw [hg.out]
      have h3 : n ≠ 2 ∨ x2 ≠ 0 ∨ x3 = true := by cases x3 <;> simp at h2 ⊢ <;> omega
      clear hc hc' hx0 hx1 hx2 hx3 ih h h2
      rcases h9 with h9 | h9
      all_goals subst h9
      all_goals rcases h3 with h3 | h3 | h3
      all_goals first | subst h3 | (have e1 : ((n : Int) != 2) = true := by simp; omega) | (have e1 : (x2 != 0) = true := by simp; omega)
      all_goals go_enter Try.func57, Try.ntmps57
      all_goals go_wp2
      all_goals go_ret
      all_goals exact ⟨rfl, (by repeat' (first | with_reducible exact Below.refl _ _ | with_reducible refine Below.alloc ?_ (by first | omega | (simp; done) | (simp; omega)) _ | with_reducible refine Below.drew ?_ | with_reducible refine below_drewN ?_ _ | with_reducible refine Below.setCell ?_ (by first | omega | (simp; done) | (simp; omega)) _ | with_reducible refine Below.grown ?_ (by assumption) (by first | omega | (simp; done) | (simp; omega)) (by intro k hk; cases hk; omega) | with_reducible refine Below.trans ?_ (Below.mono (by assumption) (by first | omega | (simp; done) | (simp; omega)))))⟩
theorem impl_PlanSize_c {t : Pl} {B : Nat} {v : Value} {w : World} (h : KT B w t v) : Calls Try.prog 20 #[(.agg #[.int .i64 t.op, .int .i64 t.pos, .int .i64 t.pane, .bool t.tu, v])] w (Rt (.int .i64 (psz t)) w) := by
  have hcp : cpV t 255 = psz t := by unfold cpV; rw [if_pos]; have := psz_bd t; omega
  have HC := fun W (hb : Below w.heap.size w W) => impl_countParts_c t B v W 255 (KT.below hb _ _ h) (by omega) (by omega)
  rw [hcp] at HC
  obtain ⟨x0, hx0⟩ : ∃ x, x = t.op := ⟨_, rfl⟩
  obtain ⟨x1, hx1⟩ : ∃ x, x = t.pos := ⟨_, rfl⟩
  obtain ⟨x2, hx2⟩ : ∃ x, x = t.pane := ⟨_, rfl⟩
  obtain ⟨x3, hx3⟩ : ∃ x, x = t.tu := ⟨_, rfl⟩
  rw [← hx0, ← hx1, ← hx2, ← hx3] at HC ⊢
  clear hx0 hx1 hx2 hx3 h hcp
  go_enter Try.func20, Try.ntmps20
  go_wp2_with (go_at_call 57; refine (HC _ (by repeat' (first | with_reducible exact Below.refl _ _ | with_reducible refine Below.alloc ?_ (by first | omega | (simp; done) | (simp; omega)) _ | with_reducible refine Below.drew ?_ | with_reducible refine below_drewN ?_ _ | with_reducible refine Below.setCell ?_ (by first | omega | (simp; done) | (simp; omega)) _ | with_reducible refine Below.grown ?_ (by assumption) (by first | omega | (simp; done) | (simp; omega)) (by intro k hk; cases hk; omega) | with_reducible refine Below.trans ?_ (Below.mono (by assumption) (by first | omega | (simp; done) | (simp; omega)))))).mono ?_; rintro e w2 ⟨rfl, hb2⟩)
  go_ret
  exact ⟨rfl, (by repeat' (first | with_reducible exact Below.refl _ _ | with_reducible refine Below.alloc ?_ (by first | omega | (simp; done) | (simp; omega)) _ | with_reducible refine Below.drew ?_ | with_reducible refine below_drewN ?_ _ | with_reducible refine Below.setCell ?_ (by first | omega | (simp; done) | (simp; omega)) _ | with_reducible refine Below.grown ?_ (by assumption) (by first | omega | (simp; done) | (simp; omega)) (by intro k hk; cases hk; omega) | with_reducible refine Below.trans ?_ (Below.mono (by assumption) (by first | omega | (simp; done) | (simp; omega)))))⟩
/-- what cutsOf does with a well formed plan -/
def CuP (t : Pl) : Prop := ∀ (B : Nat) (v : Value) (w : World), KT B w t v → 1 ≤ psz t → Calls Try.prog 54 #[(.agg #[.int .i64 t.op, .int .i64 t.pos, .int .i64 t.pane, .bool t.tu, v])] w (Rt (.int .i64 (psz t / 2)) w)
set_option maxHeartbeats 2000000 in
theorem spec_cutsOf_c : ∀ t, CuP t := by
  refine Pl.ind fun t ih => ?_
  intro B v w h hpos
  obtain ⟨x0, hx0⟩ : ∃ x, t.op = x := ⟨_, rfl⟩
  obtain ⟨x1, hx1⟩ : ∃ x, t.pos = x := ⟨_, rfl⟩
  obtain ⟨x2, hx2⟩ : ∃ x, t.pane = x := ⟨_, rfl⟩
  obtain ⟨x3, hx3⟩ : ∃ x, t.tu = x := ⟨_, rfl⟩
  have hform := h.form
  obtain ⟨n, hn⟩ : ∃ n, t.n = n := ⟨_, rfl⟩
  rw [hn] at hform
  obtain ⟨hm, p, cap, rfl, -⟩ := hform
  rw [hx0, hx1, hx2, hx3]
  have CC := fun W => spec_isCut_c x0 x1 x2 x3 (.slice p n cap) W
  cases hc : isC x0
  · have hc' : isC t.op = false := by rw [hx0]; exact hc
    rw [hc] at CC
    have h1 : psz t / 2 = 0 := by
      by_cases h2 : t.n = 0 ∧ t.pos = 0 ∧ (t.op = 1 ∨ (t.op = 0 ∧ t.pane = 0 ∧ t.tu = false))
      · rw [psz_leaf hc' h2]; rfl
      · rw [psz_bad hc' h2] at hpos; omega
    rw [h1]
    clear hc hc' hx0 hx1 hx2 hx3 ih h h1 hpos
    go_enter Try.func54, Try.ntmps54
    go_wp2_with fail
    go_at_call 85
    refine (CC _).mono ?_
    rintro e w1 ⟨rfl, hb1⟩
    obtain ⟨hc1, hf1, -, hz1⟩ := bcell hb1
    (try simp at hz1)
    (try (have y1 : w.heap.size ≤ w1.heap.size := by omega))
    (try (have z1_0_0 : w.heap.size < w1.heap.size := by omega))
    (try (have z1_0_1 : w.heap.size + 1 < w1.heap.size := by omega))
    (try (have z1_0_2 : w.heap.size + 1 + 1 < w1.heap.size := by omega))
    (try (have z1_0_3 : w.heap.size + 1 + 1 + 1 < w1.heap.size := by omega))
    go_wp2_with fail
    go_ret
    exact ⟨rfl, (by repeat' (first | with_reducible exact Below.refl _ _ | with_reducible refine Below.alloc ?_ (by first | omega | (simp; done) | (simp; omega)) _ | with_reducible refine Below.drew ?_ | with_reducible refine below_drewN ?_ _ | with_reducible refine Below.setCell ?_ (by first | omega | (simp; done) | (simp; omega)) _ | with_reducible refine Below.grown ?_ (by assumption) (by first | omega | (simp; done) | (simp; omega)) (by intro k hk; cases hk; omega) | with_reducible refine Below.trans ?_ (Below.mono (by assumption) (by first | omega | (simp; done) | (simp; omega)))))⟩
  · have hc' : isC t.op = true := by rw [hx0]; exact hc
    rw [hc] at CC
    by_cases h2' : t.n = 2 ∧ t.pane = 0 ∧ t.tu = false
    · have hP := psz_cut hc' h2'
      have hr0 := h.rsl (by omega)
      have hn2 : n = 2 := by omega
      subst hn2
      obtain ⟨p', cap', kv, he, hk, hr⟩ := hr0
      rw [hn] at he hk hr ih
      simp only [Value.slice.injEq, true_and] at he
      obtain ⟨rfl, rfl⟩ := he
      obtain ⟨b, off, rfl, hbb, hR⟩ := hr 0 (by omega)
      have q0 := psz_bd (t.kid 0)
      have q1 := psz_bd (t.kid 1)
      have u0 : 1 ≤ psz (t.kid 0) := by split at hP <;> omega
      have u1 : 1 ≤ psz (t.kid 1) := by split at hP <;> omega
      have hsum : psz t / 2 = 1 + psz (t.kid 0) / 2 + psz (t.kid 1) / 2 := by split at hP <;> omega
      have bs : psz t ≤ 255 := by have := psz_bd t; omega
      have HC0 := fun W (hb : Below w.heap.size w W) => ih 0 (by omega) B (kv 0) W (KT.below hb _ _ (hk 0 (by omega))) u0
      have HC1 := fun W (hb : Below w.heap.size w W) => ih 1 (by omega) B (kv 1) W (KT.below hb _ _ (hk 1 (by omega))) u1
      rw [hsum]
      obtain ⟨P0, hP0⟩ : ∃ P, P = psz (t.kid 0) / 2 := ⟨_, rfl⟩
      obtain ⟨P1, hP1⟩ : ∃ P, P = psz (t.kid 1) / 2 := ⟨_, rfl⟩
      rw [← hP0] at HC0 ⊢
      rw [← hP1] at HC1 ⊢
      have r0 : 0 ≤ P0 ∧ P0 ≤ 255 := by omega
      have r1 : 0 ≤ P1 ∧ P1 ≤ 255 := by omega
      obtain ⟨y0, hy0⟩ : ∃ x, x = (t.kid 0).op := ⟨_, rfl⟩
      obtain ⟨y1, hy1⟩ : ∃ x, x = (t.kid 0).pos := ⟨_, rfl⟩
      obtain ⟨y2, hy2⟩ : ∃ x, x = (t.kid 0).pane := ⟨_, rfl⟩
      obtain ⟨y3, hy3⟩ : ∃ x, x = (t.kid 0).tu := ⟨_, rfl⟩
      obtain ⟨y4, hy4⟩ : ∃ x, x = kv 0 := ⟨_, rfl⟩
      obtain ⟨z0, hz0⟩ : ∃ x, x = (t.kid 1).op := ⟨_, rfl⟩
      obtain ⟨z1, hz1⟩ : ∃ x, x = (t.kid 1).pos := ⟨_, rfl⟩
      obtain ⟨z2, hz2⟩ : ∃ x, x = (t.kid 1).pane := ⟨_, rfl⟩
      obtain ⟨z3, hz3⟩ : ∃ x, x = (t.kid 1).tu := ⟨_, rfl⟩
      obtain ⟨z4, hz4⟩ : ∃ x, x = kv 1 := ⟨_, rfl⟩
      rw [← hy0, ← hy1, ← hy2, ← hy3, ← hy4] at HC0
      rw [← hz0, ← hz1, ← hz2, ← hz3, ← hz4] at HC1
      have HRR := mkhid hR
      have HY := mkhid (⟨hy0, hy1, hy2, hy3, hy4, hz0, hz1, hz2, hz3, hz4⟩ : _ ∧ _ ∧ _ ∧ _ ∧ _ ∧ _ ∧ _ ∧ _ ∧ _ ∧ _)
      clear hy0 hy1 hy2 hy3 hy4 hz0 hz1 hz2 hz3 hz4 hP0 hP1 hP q0 q1 u0 u1 hsum bs hpos hc hc' h2' hx0 hx1 hx2 hx3 ih h hk hr hR hn
      have s1 : IntKind.i64.wrap (1 + P0) = 1 + P0 := IntWalk.i64_in _ (by omega)
      have s2 : IntKind.i64.wrap (1 + P0 + P1) = 1 + P0 + P1 := IntWalk.i64_in _ (by omega)
      go_enter Try.func54, Try.ntmps54
      go_wp2_with fail
      go_at_call 85
      refine (CC _).mono ?_
      rintro e w1 ⟨rfl, hb1⟩
      obtain ⟨hc1, hf1, -, hz1⟩ := bcell hb1
      (try simp at hz1)
      (try (have y1 : w.heap.size ≤ w1.heap.size := by omega))
      (try (have z1_0_0 : w.heap.size < w1.heap.size := by omega))
      (try (have z1_0_1 : w.heap.size + 1 < w1.heap.size := by omega))
      (try (have z1_0_2 : w.heap.size + 1 + 1 < w1.heap.size := by omega))
      (try (have z1_0_3 : w.heap.size + 1 + 1 + 1 < w1.heap.size := by omega))
      have hB1 : Below w.heap.size w w1 := (by repeat' (first | with_reducible exact Below.refl _ _ | with_reducible refine Below.alloc ?_ (by first | omega | (simp; done) | (simp; omega)) _ | with_reducible refine Below.drew ?_ | with_reducible refine below_drewN ?_ _ | with_reducible refine Below.setCell ?_ (by first | omega | (simp; done) | (simp; omega)) _ | with_reducible refine Below.grown ?_ (by assumption) (by first | omega | (simp; done) | (simp; omega)) (by intro k hk; cases hk; omega) | with_reducible refine Below.trans ?_ (Below.mono (by assumption) (by first | omega | (simp; done) | (simp; omega)))))
      have k4 : w1.cell? ⟨w.heap.size, 4, none⟩ = some (.slice (some ⟨b, off, none⟩) 2 cap) := by go_simp
      have hR1 := HRR.out.below hB1
      obtain ⟨c0, c1, c2, c3, c4⟩ := plan_cells hR1 (show 0 < 2 by omega)
      obtain ⟨d0, d1', d2, d3, d4⟩ := plan_cells hR1 (show 1 < 2 by omega)
      rw [← HY.out.1] at c0
      rw [← HY.out.2.1] at c1
      rw [← HY.out.2.2.1] at c2
      rw [← HY.out.2.2.2.1] at c3
      rw [← HY.out.2.2.2.2.1] at c4
      rw [← HY.out.2.2.2.2.2.1] at d0
      rw [← HY.out.2.2.2.2.2.2.1] at d1'
      rw [← HY.out.2.2.2.2.2.2.2.1] at d2
      rw [← HY.out.2.2.2.2.2.2.2.2.1] at d3
      rw [← HY.out.2.2.2.2.2.2.2.2.2] at d4
      simp only [Nat.zero_mul, Nat.add_zero, Nat.one_mul] at c0 c1 c2 c3 c4 d0 d1' d2 d3 d4
      have E0 := fun z : Bw w1 => HC0 z.w (hB1.trans (z.h.mono hB1.size))
      have E1 := fun z : Bw w1 => HC1 z.w (hB1.trans (z.h.mono hB1.size))
      clear HC0 HC1 hc1 hf1 hR1
      have F0 := fun z : Bw w1 => z.cell c0
      have F1 := fun z : Bw w1 => z.cell c1
      have F2 := fun z : Bw w1 => z.cell c2
      have F3 := fun z : Bw w1 => z.cell c3
      have F4 := fun z : Bw w1 => z.cell c4
      have G0 := fun z : Bw w1 => z.cell d0
      have G1 := fun z : Bw w1 => z.cell d1'
      have G2 := fun z : Bw w1 => z.cell d2
      have G3 := fun z : Bw w1 => z.cell d3
      have G4 := fun z : Bw w1 => z.cell d4
      have GK := fun z : Bw w1 => z.cell k4
      go_wp2_with fail
      refine region_bw (W := w1) (by kernel_rfl) (by kernel_rfl) (Below.refl _ _) ?_
      repeat (go_big_quiet_step ((go_at_call 54; first | with_reducible exact calls_bw (E0 _) | with_reducible exact calls_bw (E1 _))))
      refine wpQuiet_nil ?_
      rintro _ ⟨⟨wz, hbwz⟩, rfl⟩
      (try dsimp only)
      go_wp2
      go_ret
      exact ⟨rfl, hB1.trans (hbwz.mono hB1.size)⟩
    · rw [psz_badcut hc' h2'] at hpos; omega
theorem spec_CutsOf_c {t : Pl} {B : Nat} {v : Value} {w : World} (h : KT B w t v) : Calls Try.prog 15 #[(.agg #[.int .i64 t.op, .int .i64 t.pos, .int .i64 t.pane, .bool t.tu, v])] w (Rt (.int .i64 (if psz t < 0 then -1 else psz t / 2)) w) := by
  have HC := fun W (hb : Below w.heap.size w W) => spec_planSize_c t B v W (KT.below hb _ _ h)
  have HU := fun W (hb : Below w.heap.size w W) => spec_cutsOf_c t B v W (KT.below hb _ _ h)
  have hbd := psz_bd t
  obtain ⟨x0, hx0⟩ : ∃ x, x = t.op := ⟨_, rfl⟩
  obtain ⟨x1, hx1⟩ : ∃ x, x = t.pos := ⟨_, rfl⟩
  obtain ⟨x2, hx2⟩ : ∃ x, x = t.pane := ⟨_, rfl⟩
  obtain ⟨x3, hx3⟩ : ∃ x, x = t.tu := ⟨_, rfl⟩
  obtain ⟨P, hP⟩ : ∃ P, P = psz t := ⟨_, rfl⟩
  rw [← hP] at HC HU hbd ⊢
  rw [← hx0, ← hx1, ← hx2, ← hx3] at HC HU ⊢
  clear hx0 hx1 hx2 hx3 h hP
  by_cases hneg : P < 0
  · rw [if_pos hneg]
    have hP1 : P = -1 := by omega
    subst hP1
    clear hbd hneg HU
    go_enter Try.func15, Try.ntmps15
    go_wp2_with (go_at_call 53; refine (HC _ (by repeat' (first | with_reducible exact Below.refl _ _ | with_reducible refine Below.alloc ?_ (by first | omega | (simp; done) | (simp; omega)) _ | with_reducible refine Below.drew ?_ | with_reducible refine below_drewN ?_ _ | with_reducible refine Below.setCell ?_ (by first | omega | (simp; done) | (simp; omega)) _ | with_reducible refine Below.grown ?_ (by assumption) (by first | omega | (simp; done) | (simp; omega)) (by intro k hk; cases hk; omega) | with_reducible refine Below.trans ?_ (Below.mono (by assumption) (by first | omega | (simp; done) | (simp; omega)))))).mono ?_; rintro e w2 ⟨rfl, hb2⟩)
    go_ret
    exact ⟨rfl, (by repeat' (first | with_reducible exact Below.refl _ _ | with_reducible refine Below.alloc ?_ (by first | omega | (simp; done) | (simp; omega)) _ | with_reducible refine Below.drew ?_ | with_reducible refine below_drewN ?_ _ | with_reducible refine Below.setCell ?_ (by first | omega | (simp; done) | (simp; omega)) _ | with_reducible refine Below.grown ?_ (by assumption) (by first | omega | (simp; done) | (simp; omega)) (by intro k hk; cases hk; omega) | with_reducible refine Below.trans ?_ (Below.mono (by assumption) (by first | omega | (simp; done) | (simp; omega)))))⟩
  · rw [if_neg hneg]
    have HU' := fun W hb => HU W hb (by omega)
    have d1 : decide (P < 0) = false := decide_eq_false hneg
    clear hbd hneg HU
    go_enter Try.func15, Try.ntmps15
    go_wp2_with fail
    go_at_call 53
    refine (HC _ (by repeat' (first | with_reducible exact Below.refl _ _ | with_reducible refine Below.alloc ?_ (by first | omega | (simp; done) | (simp; omega)) _ | with_reducible refine Below.drew ?_ | with_reducible refine below_drewN ?_ _ | with_reducible refine Below.setCell ?_ (by first | omega | (simp; done) | (simp; omega)) _ | with_reducible refine Below.grown ?_ (by assumption) (by first | omega | (simp; done) | (simp; omega)) (by intro k hk; cases hk; omega) | with_reducible refine Below.trans ?_ (Below.mono (by assumption) (by first | omega | (simp; done) | (simp; omega)))))).mono ?_
    rintro e w1 ⟨rfl, hb1⟩
    obtain ⟨hc1, hf1, -, hz1⟩ := bcell hb1
    (try simp at hz1)
    (try (have y1 : w.heap.size ≤ w1.heap.size := by omega))
    (try (have z1_0_0 : w.heap.size < w1.heap.size := by omega))
    (try (have z1_0_1 : w.heap.size + 1 < w1.heap.size := by omega))
    (try (have z1_0_2 : w.heap.size + 1 + 1 < w1.heap.size := by omega))
    (try (have z1_0_3 : w.heap.size + 1 + 1 + 1 < w1.heap.size := by omega))
    go_wp2_with fail
    go_at_call 54
    refine (HU' _ (by repeat' (first | with_reducible exact Below.refl _ _ | with_reducible refine Below.alloc ?_ (by first | omega | (simp; done) | (simp; omega)) _ | with_reducible refine Below.drew ?_ | with_reducible refine below_drewN ?_ _ | with_reducible refine Below.setCell ?_ (by first | omega | (simp; done) | (simp; omega)) _ | with_reducible refine Below.grown ?_ (by assumption) (by first | omega | (simp; done) | (simp; omega)) (by intro k hk; cases hk; omega) | with_reducible refine Below.trans ?_ (Below.mono (by assumption) (by first | omega | (simp; done) | (simp; omega)))))).mono ?_
    rintro e w2 ⟨rfl, hb2⟩
    obtain ⟨hc2, hf2, -, hz2⟩ := bcell hb2
    (try simp at hz2)
    (try (have y2 : w.heap.size ≤ w2.heap.size := by omega))
    (try (have z2_0_0 : w.heap.size < w2.heap.size := by omega))
    (try (have z2_0_1 : w.heap.size + 1 < w2.heap.size := by omega))
    (try (have z2_0_2 : w.heap.size + 1 + 1 < w2.heap.size := by omega))
    (try (have z2_0_3 : w.heap.size + 1 + 1 + 1 < w2.heap.size := by omega))
    (try (have z2_1_0 : w1.heap.size < w2.heap.size := by omega))
    (try (have z2_1_1 : w1.heap.size + 1 < w2.heap.size := by omega))
    go_wp2_with fail
    go_ret
    exact ⟨rfl, (by repeat' (first | with_reducible exact Below.refl _ _ | with_reducible refine Below.alloc ?_ (by first | omega | (simp; done) | (simp; omega)) _ | with_reducible refine Below.drew ?_ | with_reducible refine below_drewN ?_ _ | with_reducible refine Below.setCell ?_ (by first | omega | (simp; done) | (simp; omega)) _ | with_reducible refine Below.grown ?_ (by assumption) (by first | omega | (simp; done) | (simp; omega)) (by intro k hk; cases hk; omega) | with_reducible refine Below.trans ?_ (Below.mono (by assumption) (by first | omega | (simp; done) | (simp; omega)))))⟩
theorem impl_CutsOf_c {t : Pl} {B : Nat} {v : Value} {w : World} (h : KT B w t v) : Calls Try.prog 17 #[(.agg #[.int .i64 t.op, .int .i64 t.pos, .int .i64 t.pane, .bool t.tu, v])] w (Rt (.int .i64 (if psz t < 0 then -1 else psz t / 2)) w) := by
  have HC := fun W (hb : Below w.heap.size w W) => impl_PlanSize_c (KT.below hb _ _ h)
  have hbd := psz_bd t
  obtain ⟨x0, hx0⟩ : ∃ x, x = t.op := ⟨_, rfl⟩
  obtain ⟨x1, hx1⟩ : ∃ x, x = t.pos := ⟨_, rfl⟩
  obtain ⟨x2, hx2⟩ : ∃ x, x = t.pane := ⟨_, rfl⟩
  obtain ⟨x3, hx3⟩ : ∃ x, x = t.tu := ⟨_, rfl⟩
  obtain ⟨P, hP⟩ : ∃ P, P = psz t := ⟨_, rfl⟩
  rw [← hP] at HC hbd ⊢
  rw [← hx0, ← hx1, ← hx2, ← hx3] at HC ⊢
  clear hx0 hx1 hx2 hx3 h hP
  by_cases hneg : P < 0
  · rw [if_pos hneg]
    have hP1 : P = -1 := by omega
    subst hP1
    clear hbd hneg
    go_enter Try.func17, Try.ntmps17
    go_wp2_with fail
    go_at_call 20
    refine (HC _ (by repeat' (first | with_reducible exact Below.refl _ _ | with_reducible refine Below.alloc ?_ (by first | omega | (simp; done) | (simp; omega)) _ | with_reducible refine Below.drew ?_ | with_reducible refine below_drewN ?_ _ | with_reducible refine Below.setCell ?_ (by first | omega | (simp; done) | (simp; omega)) _ | with_reducible refine Below.grown ?_ (by assumption) (by first | omega | (simp; done) | (simp; omega)) (by intro k hk; cases hk; omega) | with_reducible refine Below.trans ?_ (Below.mono (by assumption) (by first | omega | (simp; done) | (simp; omega)))))).mono ?_
    rintro e w1 ⟨rfl, hb1⟩
    obtain ⟨hc1, hf1, -, hz1⟩ := bcell hb1
    (try simp at hz1)
    (try (have y1 : w.heap.size ≤ w1.heap.size := by omega))
    (try (have z1_0_0 : w.heap.size < w1.heap.size := by omega))
    (try (have z1_0_1 : w.heap.size + 1 < w1.heap.size := by omega))
    (try (have z1_0_2 : w.heap.size + 1 + 1 < w1.heap.size := by omega))
    (try (have z1_0_3 : w.heap.size + 1 + 1 + 1 < w1.heap.size := by omega))
    go_wp2_with fail
    go_ret
    exact ⟨rfl, (by repeat' (first | with_reducible exact Below.refl _ _ | with_reducible refine Below.alloc ?_ (by first | omega | (simp; done) | (simp; omega)) _ | with_reducible refine Below.drew ?_ | with_reducible refine below_drewN ?_ _ | with_reducible refine Below.setCell ?_ (by first | omega | (simp; done) | (simp; omega)) _ | with_reducible refine Below.grown ?_ (by assumption) (by first | omega | (simp; done) | (simp; omega)) (by intro k hk; cases hk; omega) | with_reducible refine Below.trans ?_ (Below.mono (by assumption) (by first | omega | (simp; done) | (simp; omega)))))⟩
  · rw [if_neg hneg]
    have d1 : decide (P < 0) = false := decide_eq_false hneg
    have e1 : P.tdiv 2 = P / 2 := Int.tdiv_eq_ediv_of_nonneg (by omega)
    have e2 : IntKind.i64.wrap (P / 2) = P / 2 := IntWalk.i64_in _ (by omega)
    clear hbd hneg
    go_enter Try.func17, Try.ntmps17
    go_wp2_with fail
    go_at_call 20
    refine (HC _ (by repeat' (first | with_reducible exact Below.refl _ _ | with_reducible refine Below.alloc ?_ (by first | omega | (simp; done) | (simp; omega)) _ | with_reducible refine Below.drew ?_ | with_reducible refine below_drewN ?_ _ | with_reducible refine Below.setCell ?_ (by first | omega | (simp; done) | (simp; omega)) _ | with_reducible refine Below.grown ?_ (by assumption) (by first | omega | (simp; done) | (simp; omega)) (by intro k hk; cases hk; omega) | with_reducible refine Below.trans ?_ (Below.mono (by assumption) (by first | omega | (simp; done) | (simp; omega)))))).mono ?_
    rintro e w1 ⟨rfl, hb1⟩
    obtain ⟨hc1, hf1, -, hz1⟩ := bcell hb1
    (try simp at hz1)
    (try (have y1 : w.heap.size ≤ w1.heap.size := by omega))
    (try (have z1_0_0 : w.heap.size < w1.heap.size := by omega))
    (try (have z1_0_1 : w.heap.size + 1 < w1.heap.size := by omega))
    (try (have z1_0_2 : w.heap.size + 1 + 1 < w1.heap.size := by omega))
    (try (have z1_0_3 : w.heap.size + 1 + 1 + 1 < w1.heap.size := by omega))
    go_wp2_with fail
    go_ret
    exact ⟨rfl, (by repeat' (first | with_reducible exact Below.refl _ _ | with_reducible refine Below.alloc ?_ (by first | omega | (simp; done) | (simp; omega)) _ | with_reducible refine Below.drew ?_ | with_reducible refine below_drewN ?_ _ | with_reducible refine Below.setCell ?_ (by first | omega | (simp; done) | (simp; omega)) _ | with_reducible refine Below.grown ?_ (by assumption) (by first | omega | (simp; done) | (simp; omega)) (by intro k hk; cases hk; omega) | with_reducible refine Below.trans ?_ (Below.mono (by assumption) (by first | omega | (simp; done) | (simp; omega)))))⟩
end Go.Proofs.Ytjanjaabcinkiaa
