/- The walks of the laws FnExactPlanSize and FnExactCutsOf; no statement is proved here. -/
import Derived.Test.YtjanjaabcinkiaaTree3
import Derived.Test.YtjanjaabcinkiaaTree5
namespace Go.Proofs.Ytjanjaabcinkiaa
open Go.ChangeShapes Go.WideShapes Go.ChangeAt Go.RowKit Go.Deep
set_option linter.unusedVariables false
set_option linter.unusedSimpArgs false

set_option maxHeartbeats 1600000 in
theorem FnExactPlanSize_walk (t : Pl) (kv : Value) (w : World) (h : KT 0 w t kv) : Calls Try.prog 4 #[(.agg #[.int .i64 t.op, .int .i64 t.pos, .int .i64 t.pane, .bool t.tu, kv])] w (Rt (.bool true) w) := by
  have CZ := fun W (hb : Below w.heap.size w W) => szPlan_c t 0 kv W 1048576 (KT.below hb _ _ h) (by omega) (by omega)
  by_cases hs : t.sz ≤ 1048576
  · have hv : szV 1048576 t = 1048576 - (t.sz : Int) := by unfold szV; rw [if_pos (by omega)]
    have d1 : decide ((1048576 : Int) - (t.sz : Int) < 0) = false := decide_eq_false (by omega)
    rw [hv] at CZ
    have CT := fun W (hb : Below w.heap.size w W) => toPlan_c t 0 kv W (KT.below hb _ _ h) hs
    have C1 := fun W B u (hk : KT B W t u) => spec_PlanSize_c (w := W) hk
    have C2 := fun W B u (hk : KT B W t u) => impl_PlanSize_c (w := W) hk
    have CE := fun W B1 B2 u1 u2 (k1 : KT B1 W t u1) (k2 : KT B2 W t u2) => eqPlan_c t B1 B2 u1 u2 W k1 k2 hs
    obtain ⟨S, hS⟩ : ∃ S : Int, S = 1048576 - (t.sz : Int) := ⟨_, rfl⟩
    rw [← hS] at d1 CZ
    obtain ⟨P, hP⟩ : ∃ P, P = psz t := ⟨_, rfl⟩
    rw [← hP] at C1 C2
    have hsl := fun W B u (hk : KT B W t u) => hk.form.2
    obtain ⟨x0, hx0⟩ : ∃ x, x = t.op := ⟨_, rfl⟩
    obtain ⟨x1, hx1⟩ : ∃ x, x = t.pos := ⟨_, rfl⟩
    obtain ⟨x2, hx2⟩ : ∃ x, x = t.pane := ⟨_, rfl⟩
    obtain ⟨x3, hx3⟩ : ∃ x, x = t.tu := ⟨_, rfl⟩
    rw [← hx0, ← hx1, ← hx2, ← hx3] at CZ CT C1 C2 CE ⊢
    have hsl' := mkhid hsl
    clear hx0 hx1 hx2 hx3 hS hP hv hs hsl
    go_enter Try.func4, Try.ntmps4
    go_wp2_with fail
    go_at_call 14
    refine (CZ _ (by repeat' (first | with_reducible exact Below.refl _ _ | with_reducible refine Below.alloc ?_ (by first | omega | (simp; done) | (simp; omega)) _ | with_reducible refine Below.drew ?_ | with_reducible refine below_drewN ?_ _ | with_reducible refine Below.setCell ?_ (by first | omega | (simp; done) | (simp; omega)) _ | with_reducible refine Below.grown ?_ (by assumption) (by first | omega | (simp; done) | (simp; omega)) (by intro k hk; cases hk; omega) | with_reducible refine Below.trans ?_ (Below.mono (by assumption) (by first | omega | (simp; done) | (simp; omega)))))).mono ?_
    rintro e w1 ⟨rfl, hb1⟩
    obtain ⟨hc1, hf1, -, hz1⟩ := bcell hb1
    (try simp at hz1)
    (try (have y1 : w.heap.size ≤ w1.heap.size := by omega))
    (try (have z1_0_0 : w.heap.size < w1.heap.size := by omega))
    (try (have z1_0_1 : w.heap.size + 1 < w1.heap.size := by omega))
    (try (have z1_0_2 : w.heap.size + 1 + 1 < w1.heap.size := by omega))
    (try (have z1_0_3 : w.heap.size + 1 + 1 + 1 < w1.heap.size := by omega))
    go_wp2_with fail
    have hB1 : Below w.heap.size w w1 := (by repeat' (first | with_reducible exact Below.refl _ _ | with_reducible refine Below.alloc ?_ (by first | omega | (simp; done) | (simp; omega)) _ | with_reducible refine Below.drew ?_ | with_reducible refine below_drewN ?_ _ | with_reducible refine Below.setCell ?_ (by first | omega | (simp; done) | (simp; omega)) _ | with_reducible refine Below.grown ?_ (by assumption) (by first | omega | (simp; done) | (simp; omega)) (by intro k hk; cases hk; omega) | with_reducible refine Below.trans ?_ (Below.mono (by assumption) (by first | omega | (simp; done) | (simp; omega)))))
    go_at_call 16
    refine (CT _ (by repeat' (first | with_reducible exact Below.refl _ _ | with_reducible refine Below.alloc ?_ (by first | omega | (simp; done) | (simp; omega)) _ | with_reducible refine Below.drew ?_ | with_reducible refine below_drewN ?_ _ | with_reducible refine Below.setCell ?_ (by first | omega | (simp; done) | (simp; omega)) _ | with_reducible refine Below.grown ?_ (by assumption) (by first | omega | (simp; done) | (simp; omega)) (by intro k hk; cases hk; omega) | with_reducible refine Below.trans ?_ (Below.mono (by assumption) (by first | omega | (simp; done) | (simp; omega)))))).mono ?_
    rintro e w2 ⟨u2, rfl, j2, hb2⟩
    obtain ⟨hc2, hf2, -, hz2⟩ := bcell hb2
    (try simp at hz2)
    (try (have y2 : w.heap.size ≤ w2.heap.size := by omega))
    (try (have z2_0_0 : w.heap.size < w2.heap.size := by omega))
    (try (have z2_0_1 : w.heap.size + 1 < w2.heap.size := by omega))
    (try (have z2_0_2 : w.heap.size + 1 + 1 < w2.heap.size := by omega))
    (try (have z2_0_3 : w.heap.size + 1 + 1 + 1 < w2.heap.size := by omega))
    (try (have z2_1_0 : w1.heap.size < w2.heap.size := by omega))
    (try (have z2_1_1 : w1.heap.size + 1 < w2.heap.size := by omega))
    go_wp2_with fail
    have hB2 : Below w.heap.size w w2 := hB1.trans (hb2.mono hB1.size)
    go_at_call 19
    refine (C1 _ _ _ j2).mono ?_
    rintro e w3 ⟨rfl, hb3⟩
    obtain ⟨hc3, hf3, -, hz3⟩ := bcell hb3
    (try simp at hz3)
    (try (have y3 : w.heap.size ≤ w3.heap.size := by omega))
    (try (have z3_0_0 : w.heap.size < w3.heap.size := by omega))
    (try (have z3_0_1 : w.heap.size + 1 < w3.heap.size := by omega))
    (try (have z3_0_2 : w.heap.size + 1 + 1 < w3.heap.size := by omega))
    (try (have z3_0_3 : w.heap.size + 1 + 1 + 1 < w3.heap.size := by omega))
    (try (have z3_1_0 : w1.heap.size < w3.heap.size := by omega))
    (try (have z3_1_1 : w1.heap.size + 1 < w3.heap.size := by omega))
    (try (have z3_2_0 : w2.heap.size < w3.heap.size := by omega))
    (try (have z3_2_1 : w2.heap.size + 1 < w3.heap.size := by omega))
    go_wp2_with fail
    have hB3 : Below w.heap.size w w3 := hB2.trans (hb3.mono hB2.size)
    go_at_call 16
    refine (CT _ (by repeat' (first | with_reducible exact Below.refl _ _ | with_reducible refine Below.alloc ?_ (by first | omega | (simp; done) | (simp; omega)) _ | with_reducible refine Below.drew ?_ | with_reducible refine below_drewN ?_ _ | with_reducible refine Below.setCell ?_ (by first | omega | (simp; done) | (simp; omega)) _ | with_reducible refine Below.grown ?_ (by assumption) (by first | omega | (simp; done) | (simp; omega)) (by intro k hk; cases hk; omega) | with_reducible refine Below.trans ?_ (Below.mono (by assumption) (by first | omega | (simp; done) | (simp; omega)))))).mono ?_
    rintro e w4 ⟨u4, rfl, j4, hb4⟩
    obtain ⟨hc4, hf4, -, hz4⟩ := bcell hb4
    (try simp at hz4)
    (try (have y4 : w.heap.size ≤ w4.heap.size := by omega))
    (try (have z4_0_0 : w.heap.size < w4.heap.size := by omega))
    (try (have z4_0_1 : w.heap.size + 1 < w4.heap.size := by omega))
    (try (have z4_0_2 : w.heap.size + 1 + 1 < w4.heap.size := by omega))
    (try (have z4_0_3 : w.heap.size + 1 + 1 + 1 < w4.heap.size := by omega))
    (try (have z4_1_0 : w1.heap.size < w4.heap.size := by omega))
    (try (have z4_1_1 : w1.heap.size + 1 < w4.heap.size := by omega))
    (try (have z4_2_0 : w2.heap.size < w4.heap.size := by omega))
    (try (have z4_2_1 : w2.heap.size + 1 < w4.heap.size := by omega))
    (try (have z4_3_0 : w3.heap.size < w4.heap.size := by omega))
    (try (have z4_3_1 : w3.heap.size + 1 < w4.heap.size := by omega))
    have hB4 : Below w.heap.size w w4 := hB3.trans (hb4.mono hB3.size)
    have z4a : w.heap.size < w4.heap.size + 1 := by omega
    obtain ⟨pu, cu, hu, _⟩ := hsl'.out _ _ _ j4
    obtain ⟨nn, hnn⟩ : ∃ m, m = t.n := ⟨_, rfl⟩
    rw [← hnn] at hu
    subst hu
    clear hnn
    go_wp2_with fail
    go_at_call 20
    refine (C2 _ _ _ (KT.below (by repeat' (first | with_reducible exact Below.refl _ _ | with_reducible refine Below.alloc ?_ (by first | omega | (simp; done) | (simp; omega)) _ | with_reducible refine Below.drew ?_ | with_reducible refine below_drewN ?_ _ | with_reducible refine Below.setCell ?_ (by first | omega | (simp; done) | (simp; omega)) _ | with_reducible refine Below.grown ?_ (by assumption) (by first | omega | (simp; done) | (simp; omega)) (by intro k hk; cases hk; omega) | with_reducible refine Below.trans ?_ (Below.mono (by assumption) (by first | omega | (simp; done) | (simp; omega))))) _ _ j4)).mono ?_
    rintro e w5 ⟨rfl, hb5⟩
    obtain ⟨hc5, hf5, -, hz5⟩ := bcell hb5
    (try simp at hz5)
    (try (have y5 : w.heap.size ≤ w5.heap.size := by omega))
    (try (have z5_0_0 : w.heap.size < w5.heap.size := by omega))
    (try (have z5_0_1 : w.heap.size + 1 < w5.heap.size := by omega))
    (try (have z5_0_2 : w.heap.size + 1 + 1 < w5.heap.size := by omega))
    (try (have z5_0_3 : w.heap.size + 1 + 1 + 1 < w5.heap.size := by omega))
    (try (have z5_1_0 : w1.heap.size < w5.heap.size := by omega))
    (try (have z5_1_1 : w1.heap.size + 1 < w5.heap.size := by omega))
    (try (have z5_2_0 : w2.heap.size < w5.heap.size := by omega))
    (try (have z5_2_1 : w2.heap.size + 1 < w5.heap.size := by omega))
    (try (have z5_3_0 : w3.heap.size < w5.heap.size := by omega))
    (try (have z5_3_1 : w3.heap.size + 1 < w5.heap.size := by omega))
    (try (have z5_4_0 : w4.heap.size < w5.heap.size := by omega))
    (try (have z5_4_1 : w4.heap.size + 1 < w5.heap.size := by omega))
    go_wp2_with fail
    have hb5' : Below w4.heap.size w4 w5 := by clear hB1 hB2 hB3 hB4 hb1 hb2 hb3 hb4; exact (by repeat' (first | with_reducible exact Below.refl _ _ | with_reducible refine Below.alloc ?_ (by first | omega | (simp; done) | (simp; omega)) _ | with_reducible refine Below.drew ?_ | with_reducible refine below_drewN ?_ _ | with_reducible refine Below.setCell ?_ (by first | omega | (simp; done) | (simp; omega)) _ | with_reducible refine Below.grown ?_ (by assumption) (by first | omega | (simp; done) | (simp; omega)) (by intro k hk; cases hk; omega) | with_reducible refine Below.trans ?_ (Below.mono (by assumption) (by first | omega | (simp; done) | (simp; omega)))))
    have hB5 : Below w.heap.size w w5 := hB4.trans (hb5'.mono hB4.size)
    have j5 := KT.below hb5' _ _ j4
    clear hB1 hB2 hB3 hB4 hb1 hb2 hb3 hb4
    go_region_with (first | (go_at_call 16; refine (CT _ (by first | exact hB5 | exact Below.drew hB5 | exact below_drewN hB5 _)).mono ?_; rintro e w6 ⟨u6, rfl, j6, hb6⟩; replace hb6 : Below w5.heap.size w5 w6 := (by first | exact hb6 | exact below_und hb6); have hc6 := (bcell hb6).1; have hz6 := hb6.size; (try (have z6_0 : w.heap.size < w6.heap.size := by omega)); (try (have z6_4 : w4.heap.size < w6.heap.size := by omega))) | (go_at_call 18; refine (CE _ _ _ _ _ (KT.below hb6 _ _ j5) j6).mono ?_; rintro e w7 ⟨rfl, hb7⟩; have hB7 : Below w.heap.size w w7 := (hB5.trans (hb6.mono hB5.size)).trans (hb7.mono (Nat.le_trans hB5.size hb6.size))))
    all_goals go_wp2
    all_goals go_ret
    all_goals exact ⟨rfl, hB7⟩
  · have hv : szV 1048576 t = -1 := by unfold szV; rw [if_neg (by omega)]
    rw [hv] at CZ
    obtain ⟨x0, hx0⟩ : ∃ x, x = t.op := ⟨_, rfl⟩
    obtain ⟨x1, hx1⟩ : ∃ x, x = t.pos := ⟨_, rfl⟩
    obtain ⟨x2, hx2⟩ : ∃ x, x = t.pane := ⟨_, rfl⟩
    obtain ⟨x3, hx3⟩ : ∃ x, x = t.tu := ⟨_, rfl⟩
    rw [← hx0, ← hx1, ← hx2, ← hx3] at CZ ⊢
    clear hx0 hx1 hx2 hx3 hv hs
    go_enter Try.func4, Try.ntmps4
    go_wp2_with fail
    go_at_call 14
    refine (CZ _ (by repeat' (first | with_reducible exact Below.refl _ _ | with_reducible refine Below.alloc ?_ (by first | omega | (simp; done) | (simp; omega)) _ | with_reducible refine Below.drew ?_ | with_reducible refine below_drewN ?_ _ | with_reducible refine Below.setCell ?_ (by first | omega | (simp; done) | (simp; omega)) _ | with_reducible refine Below.grown ?_ (by assumption) (by first | omega | (simp; done) | (simp; omega)) (by intro k hk; cases hk; omega) | with_reducible refine Below.trans ?_ (Below.mono (by assumption) (by first | omega | (simp; done) | (simp; omega)))))).mono ?_
    rintro e w1 ⟨rfl, hb1⟩
    obtain ⟨hc1, hf1, -, hz1⟩ := bcell hb1
    (try simp at hz1)
    (try (have y1 : w.heap.size ≤ w1.heap.size := by omega))
    (try (have z1_0_0 : w.heap.size < w1.heap.size := by omega))
    (try (have z1_0_1 : w.heap.size + 1 < w1.heap.size := by omega))
    (try (have z1_0_2 : w.heap.size + 1 + 1 < w1.heap.size := by omega))
    (try (have z1_0_3 : w.heap.size + 1 + 1 + 1 < w1.heap.size := by omega))
    go_wp2_with fail
    go_ret
    exact ⟨rfl, (by repeat' (first | with_reducible exact Below.refl _ _ | with_reducible refine Below.alloc ?_ (by first | omega | (simp; done) | (simp; omega)) _ | with_reducible refine Below.drew ?_ | with_reducible refine below_drewN ?_ _ | with_reducible refine Below.setCell ?_ (by first | omega | (simp; done) | (simp; omega)) _ | with_reducible refine Below.grown ?_ (by assumption) (by first | omega | (simp; done) | (simp; omega)) (by intro k hk; cases hk; omega) | with_reducible refine Below.trans ?_ (Below.mono (by assumption) (by first | omega | (simp; done) | (simp; omega)))))⟩
set_option maxHeartbeats 1600000 in
theorem FnExactCutsOf_walk (t : Pl) (kv : Value) (w : World) (h : KT 0 w t kv) : Calls Try.prog 3 #[(.agg #[.int .i64 t.op, .int .i64 t.pos, .int .i64 t.pane, .bool t.tu, kv])] w (Rt (.bool true) w) := by
  have CZ := fun W (hb : Below w.heap.size w W) => szPlan_c t 0 kv W 1048576 (KT.below hb _ _ h) (by omega) (by omega)
  by_cases hs : t.sz ≤ 1048576
  · have hv : szV 1048576 t = 1048576 - (t.sz : Int) := by unfold szV; rw [if_pos (by omega)]
    have d1 : decide ((1048576 : Int) - (t.sz : Int) < 0) = false := decide_eq_false (by omega)
    rw [hv] at CZ
    have CT := fun W (hb : Below w.heap.size w W) => toPlan_c t 0 kv W (KT.below hb _ _ h) hs
    have C1 := fun W B u (hk : KT B W t u) => spec_CutsOf_c (w := W) hk
    have C2 := fun W B u (hk : KT B W t u) => impl_CutsOf_c (w := W) hk
    have CE := fun W B1 B2 u1 u2 (k1 : KT B1 W t u1) (k2 : KT B2 W t u2) => eqPlan_c t B1 B2 u1 u2 W k1 k2 hs
    obtain ⟨S, hS⟩ : ∃ S : Int, S = 1048576 - (t.sz : Int) := ⟨_, rfl⟩
    rw [← hS] at d1 CZ
    obtain ⟨P, hP⟩ : ∃ P, P = (if psz t < 0 then -1 else psz t / 2) := ⟨_, rfl⟩
    rw [← hP] at C1 C2
    have hsl := fun W B u (hk : KT B W t u) => hk.form.2
    obtain ⟨x0, hx0⟩ : ∃ x, x = t.op := ⟨_, rfl⟩
    obtain ⟨x1, hx1⟩ : ∃ x, x = t.pos := ⟨_, rfl⟩
    obtain ⟨x2, hx2⟩ : ∃ x, x = t.pane := ⟨_, rfl⟩
    obtain ⟨x3, hx3⟩ : ∃ x, x = t.tu := ⟨_, rfl⟩
    rw [← hx0, ← hx1, ← hx2, ← hx3] at CZ CT C1 C2 CE ⊢
    have hsl' := mkhid hsl
    clear hx0 hx1 hx2 hx3 hS hP hv hs hsl
    go_enter Try.func3, Try.ntmps3
    go_wp2_with fail
    go_at_call 14
    refine (CZ _ (by repeat' (first | with_reducible exact Below.refl _ _ | with_reducible refine Below.alloc ?_ (by first | omega | (simp; done) | (simp; omega)) _ | with_reducible refine Below.drew ?_ | with_reducible refine below_drewN ?_ _ | with_reducible refine Below.setCell ?_ (by first | omega | (simp; done) | (simp; omega)) _ | with_reducible refine Below.grown ?_ (by assumption) (by first | omega | (simp; done) | (simp; omega)) (by intro k hk; cases hk; omega) | with_reducible refine Below.trans ?_ (Below.mono (by assumption) (by first | omega | (simp; done) | (simp; omega)))))).mono ?_
    rintro e w1 ⟨rfl, hb1⟩
    obtain ⟨hc1, hf1, -, hz1⟩ := bcell hb1
    (try simp at hz1)
    (try (have y1 : w.heap.size ≤ w1.heap.size := by omega))
    (try (have z1_0_0 : w.heap.size < w1.heap.size := by omega))
    (try (have z1_0_1 : w.heap.size + 1 < w1.heap.size := by omega))
    (try (have z1_0_2 : w.heap.size + 1 + 1 < w1.heap.size := by omega))
    (try (have z1_0_3 : w.heap.size + 1 + 1 + 1 < w1.heap.size := by omega))
    go_wp2_with fail
    have hB1 : Below w.heap.size w w1 := (by repeat' (first | with_reducible exact Below.refl _ _ | with_reducible refine Below.alloc ?_ (by first | omega | (simp; done) | (simp; omega)) _ | with_reducible refine Below.drew ?_ | with_reducible refine below_drewN ?_ _ | with_reducible refine Below.setCell ?_ (by first | omega | (simp; done) | (simp; omega)) _ | with_reducible refine Below.grown ?_ (by assumption) (by first | omega | (simp; done) | (simp; omega)) (by intro k hk; cases hk; omega) | with_reducible refine Below.trans ?_ (Below.mono (by assumption) (by first | omega | (simp; done) | (simp; omega)))))
    go_at_call 16
    refine (CT _ (by repeat' (first | with_reducible exact Below.refl _ _ | with_reducible refine Below.alloc ?_ (by first | omega | (simp; done) | (simp; omega)) _ | with_reducible refine Below.drew ?_ | with_reducible refine below_drewN ?_ _ | with_reducible refine Below.setCell ?_ (by first | omega | (simp; done) | (simp; omega)) _ | with_reducible refine Below.grown ?_ (by assumption) (by first | omega | (simp; done) | (simp; omega)) (by intro k hk; cases hk; omega) | with_reducible refine Below.trans ?_ (Below.mono (by assumption) (by first | omega | (simp; done) | (simp; omega)))))).mono ?_
    rintro e w2 ⟨u2, rfl, j2, hb2⟩
    obtain ⟨hc2, hf2, -, hz2⟩ := bcell hb2
    (try simp at hz2)
    (try (have y2 : w.heap.size ≤ w2.heap.size := by omega))
    (try (have z2_0_0 : w.heap.size < w2.heap.size := by omega))
    (try (have z2_0_1 : w.heap.size + 1 < w2.heap.size := by omega))
    (try (have z2_0_2 : w.heap.size + 1 + 1 < w2.heap.size := by omega))
    (try (have z2_0_3 : w.heap.size + 1 + 1 + 1 < w2.heap.size := by omega))
    (try (have z2_1_0 : w1.heap.size < w2.heap.size := by omega))
    (try (have z2_1_1 : w1.heap.size + 1 < w2.heap.size := by omega))
    go_wp2_with fail
    have hB2 : Below w.heap.size w w2 := hB1.trans (hb2.mono hB1.size)
    go_at_call 15
    refine (C1 _ _ _ j2).mono ?_
    rintro e w3 ⟨rfl, hb3⟩
    obtain ⟨hc3, hf3, -, hz3⟩ := bcell hb3
    (try simp at hz3)
    (try (have y3 : w.heap.size ≤ w3.heap.size := by omega))
    (try (have z3_0_0 : w.heap.size < w3.heap.size := by omega))
    (try (have z3_0_1 : w.heap.size + 1 < w3.heap.size := by omega))
    (try (have z3_0_2 : w.heap.size + 1 + 1 < w3.heap.size := by omega))
    (try (have z3_0_3 : w.heap.size + 1 + 1 + 1 < w3.heap.size := by omega))
    (try (have z3_1_0 : w1.heap.size < w3.heap.size := by omega))
    (try (have z3_1_1 : w1.heap.size + 1 < w3.heap.size := by omega))
    (try (have z3_2_0 : w2.heap.size < w3.heap.size := by omega))
    (try (have z3_2_1 : w2.heap.size + 1 < w3.heap.size := by omega))
    go_wp2_with fail
    have hB3 : Below w.heap.size w w3 := hB2.trans (hb3.mono hB2.size)
    go_at_call 16
    refine (CT _ (by repeat' (first | with_reducible exact Below.refl _ _ | with_reducible refine Below.alloc ?_ (by first | omega | (simp; done) | (simp; omega)) _ | with_reducible refine Below.drew ?_ | with_reducible refine below_drewN ?_ _ | with_reducible refine Below.setCell ?_ (by first | omega | (simp; done) | (simp; omega)) _ | with_reducible refine Below.grown ?_ (by assumption) (by first | omega | (simp; done) | (simp; omega)) (by intro k hk; cases hk; omega) | with_reducible refine Below.trans ?_ (Below.mono (by assumption) (by first | omega | (simp; done) | (simp; omega)))))).mono ?_
    rintro e w4 ⟨u4, rfl, j4, hb4⟩
    obtain ⟨hc4, hf4, -, hz4⟩ := bcell hb4
    (try simp at hz4)
    (try (have y4 : w.heap.size ≤ w4.heap.size := by omega))
    (try (have z4_0_0 : w.heap.size < w4.heap.size := by omega))
    (try (have z4_0_1 : w.heap.size + 1 < w4.heap.size := by omega))
    (try (have z4_0_2 : w.heap.size + 1 + 1 < w4.heap.size := by omega))
    (try (have z4_0_3 : w.heap.size + 1 + 1 + 1 < w4.heap.size := by omega))
    (try (have z4_1_0 : w1.heap.size < w4.heap.size := by omega))
    (try (have z4_1_1 : w1.heap.size + 1 < w4.heap.size := by omega))
    (try (have z4_2_0 : w2.heap.size < w4.heap.size := by omega))
    (try (have z4_2_1 : w2.heap.size + 1 < w4.heap.size := by omega))
    (try (have z4_3_0 : w3.heap.size < w4.heap.size := by omega))
    (try (have z4_3_1 : w3.heap.size + 1 < w4.heap.size := by omega))
    have hB4 : Below w.heap.size w w4 := hB3.trans (hb4.mono hB3.size)
    have z4a : w.heap.size < w4.heap.size + 1 := by omega
    obtain ⟨pu, cu, hu, _⟩ := hsl'.out _ _ _ j4
    obtain ⟨nn, hnn⟩ : ∃ m, m = t.n := ⟨_, rfl⟩
    rw [← hnn] at hu
    subst hu
    clear hnn
    go_wp2_with fail
    go_at_call 17
    refine (C2 _ _ _ (KT.below (by repeat' (first | with_reducible exact Below.refl _ _ | with_reducible refine Below.alloc ?_ (by first | omega | (simp; done) | (simp; omega)) _ | with_reducible refine Below.drew ?_ | with_reducible refine below_drewN ?_ _ | with_reducible refine Below.setCell ?_ (by first | omega | (simp; done) | (simp; omega)) _ | with_reducible refine Below.grown ?_ (by assumption) (by first | omega | (simp; done) | (simp; omega)) (by intro k hk; cases hk; omega) | with_reducible refine Below.trans ?_ (Below.mono (by assumption) (by first | omega | (simp; done) | (simp; omega))))) _ _ j4)).mono ?_
    rintro e w5 ⟨rfl, hb5⟩
    obtain ⟨hc5, hf5, -, hz5⟩ := bcell hb5
    (try simp at hz5)
    (try (have y5 : w.heap.size ≤ w5.heap.size := by omega))
    (try (have z5_0_0 : w.heap.size < w5.heap.size := by omega))
    (try (have z5_0_1 : w.heap.size + 1 < w5.heap.size := by omega))
    (try (have z5_0_2 : w.heap.size + 1 + 1 < w5.heap.size := by omega))
    (try (have z5_0_3 : w.heap.size + 1 + 1 + 1 < w5.heap.size := by omega))
    (try (have z5_1_0 : w1.heap.size < w5.heap.size := by omega))
    (try (have z5_1_1 : w1.heap.size + 1 < w5.heap.size := by omega))
    (try (have z5_2_0 : w2.heap.size < w5.heap.size := by omega))
    (try (have z5_2_1 : w2.heap.size + 1 < w5.heap.size := by omega))
    (try (have z5_3_0 : w3.heap.size < w5.heap.size := by omega))
    (try (have z5_3_1 : w3.heap.size + 1 < w5.heap.size := by omega))
    (try (have z5_4_0 : w4.heap.size < w5.heap.size := by omega))
    (try (have z5_4_1 : w4.heap.size + 1 < w5.heap.size := by omega))
    go_wp2_with fail
    have hb5' : Below w4.heap.size w4 w5 := by clear hB1 hB2 hB3 hB4 hb1 hb2 hb3 hb4; exact (by repeat' (first | with_reducible exact Below.refl _ _ | with_reducible refine Below.alloc ?_ (by first | omega | (simp; done) | (simp; omega)) _ | with_reducible refine Below.drew ?_ | with_reducible refine below_drewN ?_ _ | with_reducible refine Below.setCell ?_ (by first | omega | (simp; done) | (simp; omega)) _ | with_reducible refine Below.grown ?_ (by assumption) (by first | omega | (simp; done) | (simp; omega)) (by intro k hk; cases hk; omega) | with_reducible refine Below.trans ?_ (Below.mono (by assumption) (by first | omega | (simp; done) | (simp; omega)))))
    have hB5 : Below w.heap.size w w5 := hB4.trans (hb5'.mono hB4.size)
    have j5 := KT.below hb5' _ _ j4
    clear hB1 hB2 hB3 hB4 hb1 hb2 hb3 hb4
    go_region_with (first | (go_at_call 16; refine (CT _ (by first | exact hB5 | exact Below.drew hB5 | exact below_drewN hB5 _)).mono ?_; rintro e w6 ⟨u6, rfl, j6, hb6⟩; replace hb6 : Below w5.heap.size w5 w6 := (by first | exact hb6 | exact below_und hb6); have hc6 := (bcell hb6).1; have hz6 := hb6.size; (try (have z6_0 : w.heap.size < w6.heap.size := by omega)); (try (have z6_4 : w4.heap.size < w6.heap.size := by omega))) | (go_at_call 18; refine (CE _ _ _ _ _ (KT.below hb6 _ _ j5) j6).mono ?_; rintro e w7 ⟨rfl, hb7⟩; have hB7 : Below w.heap.size w w7 := (hB5.trans (hb6.mono hB5.size)).trans (hb7.mono (Nat.le_trans hB5.size hb6.size))))
    all_goals go_wp2
    all_goals go_ret
    all_goals exact ⟨rfl, hB7⟩
  · have hv : szV 1048576 t = -1 := by unfold szV; rw [if_neg (by omega)]
    rw [hv] at CZ
    obtain ⟨x0, hx0⟩ : ∃ x, x = t.op := ⟨_, rfl⟩
    obtain ⟨x1, hx1⟩ : ∃ x, x = t.pos := ⟨_, rfl⟩
    obtain ⟨x2, hx2⟩ : ∃ x, x = t.pane := ⟨_, rfl⟩
    obtain ⟨x3, hx3⟩ : ∃ x, x = t.tu := ⟨_, rfl⟩
    rw [← hx0, ← hx1, ← hx2, ← hx3] at CZ ⊢
    clear hx0 hx1 hx2 hx3 hv hs
    go_enter Try.func3, Try.ntmps3
    go_wp2_with fail
    go_at_call 14
    refine (CZ _ (by repeat' (first | with_reducible exact Below.refl _ _ | with_reducible refine Below.alloc ?_ (by first | omega | (simp; done) | (simp; omega)) _ | with_reducible refine Below.drew ?_ | with_reducible refine below_drewN ?_ _ | with_reducible refine Below.setCell ?_ (by first | omega | (simp; done) | (simp; omega)) _ | with_reducible refine Below.grown ?_ (by assumption) (by first | omega | (simp; done) | (simp; omega)) (by intro k hk; cases hk; omega) | with_reducible refine Below.trans ?_ (Below.mono (by assumption) (by first | omega | (simp; done) | (simp; omega)))))).mono ?_
    rintro e w1 ⟨rfl, hb1⟩
    obtain ⟨hc1, hf1, -, hz1⟩ := bcell hb1
    (try simp at hz1)
    (try (have y1 : w.heap.size ≤ w1.heap.size := by omega))
    (try (have z1_0_0 : w.heap.size < w1.heap.size := by omega))
    (try (have z1_0_1 : w.heap.size + 1 < w1.heap.size := by omega))
    (try (have z1_0_2 : w.heap.size + 1 + 1 < w1.heap.size := by omega))
    (try (have z1_0_3 : w.heap.size + 1 + 1 + 1 < w1.heap.size := by omega))
    go_wp2_with fail
    go_ret
    exact ⟨rfl, (by repeat' (first | with_reducible exact Below.refl _ _ | with_reducible refine Below.alloc ?_ (by first | omega | (simp; done) | (simp; omega)) _ | with_reducible refine Below.drew ?_ | with_reducible refine below_drewN ?_ _ | with_reducible refine Below.setCell ?_ (by first | omega | (simp; done) | (simp; omega)) _ | with_reducible refine Below.grown ?_ (by assumption) (by first | omega | (simp; done) | (simp; omega)) (by intro k hk; cases hk; omega) | with_reducible refine Below.trans ?_ (Below.mono (by assumption) (by first | omega | (simp; done) | (simp; omega)))))⟩
end Go.Proofs.Ytjanjaabcinkiaa
