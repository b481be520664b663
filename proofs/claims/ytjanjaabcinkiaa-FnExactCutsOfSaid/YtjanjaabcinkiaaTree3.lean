/- toPlan, eqPlan of the laws; no statement is proved here. -/
import Derived.Test.YtjanjaabcinkiaaTree2
namespace Go.Proofs.Ytjanjaabcinkiaa
open Go.ChangeShapes Go.WideShapes Go.ChangeAt Go.RowKit Go.Deep
set_option linter.unusedVariables false
set_option linter.unusedSimpArgs false

theorem infoPlan : (Try.prog.info? 29).map (fun i => (i.zero, i.size, i.bytes)) = some (some (.agg #[.int .i64 0, .int .i64 0, .int .i64 0, .bool false, .slice none 0 0]), 5, 56) := by kernel_rfl
/-- what toPlan does with a plan -/
def ToP (t : Pl) : Prop := ∀ (B : Nat) (v : Value) (w : World), KT B w t v → t.sz ≤ 1048576 → Calls Try.prog 16 #[(.agg #[.int .i64 t.op, .int .i64 t.pos, .int .i64 t.pane, .bool t.tu, v])] w (fun e w' => ∃ u, e = .returned (.agg #[.int .i64 t.op, .int .i64 t.pos, .int .i64 t.pane, .bool t.tu, u]) ∧ KT w.heap.size w' t u ∧ Below w.heap.size w w')
set_option maxHeartbeats 1600000 in
theorem toPlanS_c (t : Pl) (ih : ∀ i, i < t.n → ToP (t.kid i)) (B : Nat) (v : Value) (w : World) (h : KT B w t v) (hs : t.sz ≤ 1048576) : Calls Try.prog 55 #[v] w (fun e w' => ∃ u, e = .returned u ∧ KT w.heap.size w' t u ∧ Below w.heap.size w w') := by
  obtain ⟨i0, hi, iz0, iz1, iz2⟩ := info_parts infoPlan
  have hne := h.node
  have hn : t.n ≤ 1048576 := Nat.le_trans t.sz_n hs
  obtain ⟨p, cap, kv, rfl, hk, hr⟩ := h.rsl hn
  have hks := fun i (hi : i < t.n) => Nat.le_trans (t.sz_kid hi) hs
  have hmk := fun W g kv' (hr : RSl W g 0 t.n t.n 5 (planF t kv')) (hg : w.heap.size ≤ g) hk => KT.mk (B := w.heap.size) hne hg hr hk
  obtain ⟨n, hnn⟩ : ∃ n, t.n = n := ⟨_, rfl⟩
  rw [hnn] at hn hk hr hks hmk ih ⊢
  clear hnn h hs hne
  have HR := mkhid (⟨ih, hk, hr, hks⟩ : _ ∧ _ ∧ _ ∧ _)
  have HM := mkhid hmk
  clear ih hk hr hks hmk
  go_enter Try.func55, Try.ntmps55
  go_wp2_with (refine wpList_make_full _ rfl _ _ 27 rfl w.heap.size 29 i0 (.agg #[.int .i64 0, .int .i64 0, .int .i64 0, .bool false, .slice none 0 0]) 5 Try.underlying27 hi iz0 iz1 .i64 .i64 _ _ n rfl rfl rfl rfl (by rw [iz2]; omega) (by unfold maxLen; omega) (Nat.le_refl _) ?_; intro w1 hown1 hgrow1)
  have ho1 : RRow w1 w.heap.size w.heap.size n 5 29 (0 * 5) (planF t (fun _ => .bool false)) := RRow.q (RRow.of _ hown1 (by simp [madeCells])) (by omega)
  have hb1 : Below w.heap.size w w1 := (Below.refl _ _).grown hgrow1 (Nat.le_refl _) (fun k hk => by cases hk)
  have hz1 : w.heap.size < w1.heap.size := (World.ownsRow.lt hown1 _ rfl).2
  clear hown1 hgrow1
  go_loopw [4] (fun i wr => ∃ k : Nat, k ≤ n ∧ i = .int .i64 k ∧ ∃ kv', RRow wr w.heap.size w.heap.size n 5 29 (k * 5) (planF t kv') ∧ Hid (∀ i, i < k → KT (w.heap.size + 1) wr (t.kid i) (kv' i)) ∧ w.heap.size < wr.heap.size ∧ Below w.heap.size w wr) (fun i _ => n - (intOf i).toNat)
  case atStart => exact ⟨0, Nat.zero_le _, rfl, _, ho1, fun i hi => absurd hi (Nat.not_lt_zero _), hz1, hb1⟩
  case round =>
    obtain ⟨k, hk', rfl, kv', ho, hks', hzr, hbr⟩ := hrel
    clear ho1 hb1 hz1
    obtain ⟨ih, hk, hr, hks⟩ := HR.out
    by_cases hlt : k < n
    · have i1 : (0 : Int) ≤ (k : Int) := by omega
      have i2 : (k : Int) < (n : Int) := by omega
      obtain ⟨b, off, rfl, hbb, hR⟩ := hr k hlt
      obtain ⟨c0, c1, c2, c3, c4⟩ := plan_cells (hR.below hbr) hlt
      have HC := ih k hlt B (kv k) wr (KT.below hbr _ _ (hk k hlt)) (hks k hlt)
      have HPT := mkhid (fun (W : World) (u : Value) (hW : RRow W w.heap.size w.heap.size n 5 29 (k * 5) (planF t kv')) => plan_put (plan_re hW u) hlt)
      obtain ⟨q, hq⟩ : ∃ q, q = t.kid k := ⟨_, rfl⟩
      have HQ := mkhid hq
      rw [← hq] at c0 c1 c2 c3 HC
      obtain ⟨x0, hx0⟩ : ∃ x, x = q.op := ⟨_, rfl⟩
      obtain ⟨x1, hx1⟩ : ∃ x, x = q.pos := ⟨_, rfl⟩
      obtain ⟨x2, hx2⟩ : ∃ x, x = q.pane := ⟨_, rfl⟩
      obtain ⟨x3, hx3⟩ : ∃ x, x = q.tu := ⟨_, rfl⟩
      obtain ⟨x4, hx4⟩ : ∃ x, x = kv k := ⟨_, rfl⟩
      rw [← hx0, ← hx1, ← hx2, ← hx3, ← hx4] at HC
      rw [← hx0] at c0
      rw [← hx1] at c1
      rw [← hx2] at c2
      rw [← hx3] at c3
      rw [← hx4] at c4
      have HX := mkhid (⟨hx0, hx1, hx2, hx3⟩ : _ ∧ _ ∧ _ ∧ _)
      clear hx0 hx1 hx2 hx3 hx4 ih hk hr hks hq
      go_wp2_with fail
      go_at_call 16
      refine HC.mono ?_
      rintro e w2 ⟨u', rfl, hu, hb2⟩
      obtain ⟨u, hu'⟩ : ∃ u, u = u' := ⟨_, rfl⟩
      obtain ⟨_, pu, cu, hfu, _⟩ := hu.form
      obtain ⟨qn, hqn⟩ : ∃ m, m = q.n := ⟨_, rfl⟩
      rw [← hqn] at hfu
      subst hfu
      clear hu' hqn u
      have ho2 := ho.below hb2
      have hz2 := hb2.size
      obtain ⟨⟨u0, hu0⟩, hf0⟩ := ho2.old (j := k * 5) (by omega)
      obtain ⟨⟨u1, hu1⟩, hf1⟩ := ho2.old (j := k * 5 + 1) (by omega)
      obtain ⟨⟨u2, hu2⟩, hf2⟩ := ho2.old (j := k * 5 + 2) (by omega)
      obtain ⟨⟨u3, hu3⟩, hf3⟩ := ho2.old (j := k * 5 + 3) (by omega)
      obtain ⟨⟨u4, hu4⟩, hf4⟩ := ho2.old (j := k * 5 + 4) (by omega)
      have hB2 := hbr.trans (hb2.mono (by omega))
      have hb3 := (((((hB2.setCell (p := ⟨w.heap.size, k * 5, none⟩) (Nat.le_refl _) (.int .i64 x0)).setCell (p := ⟨w.heap.size, k * 5 + 1, none⟩) (Nat.le_refl _) (.int .i64 x1)).setCell (p := ⟨w.heap.size, k * 5 + 2, none⟩) (Nat.le_refl _) (.int .i64 x2)).setCell (p := ⟨w.heap.size, k * 5 + 3, none⟩) (Nat.le_refl _) (.bool x3)).setCell (p := ⟨w.heap.size, k * 5 + 4, none⟩) (Nat.le_refl _) (.slice pu qn cu))
      have ho3 := HPT.out w2 (.slice pu qn cu) ho2
      simp only [↓reduceIte] at ho3
      rw [← HQ.out, ← HX.out.1, ← HX.out.2.1, ← HX.out.2.2.1, ← HX.out.2.2.2] at ho3
      have HK : Hid (∀ i, i < k + 1 → KT (w.heap.size + 1) (((((w2.setCell ⟨w.heap.size, k * 5, none⟩ (.int .i64 x0)).setCell ⟨w.heap.size, k * 5 + 1, none⟩ (.int .i64 x1)).setCell ⟨w.heap.size, k * 5 + 2, none⟩ (.int .i64 x2)).setCell ⟨w.heap.size, k * 5 + 3, none⟩ (.bool x3)).setCell ⟨w.heap.size, k * 5 + 4, none⟩ (.slice pu qn cu)) (t.kid i) (if i = k then .slice pu qn cu else kv' i)) := fun i hi => by
        have lg : w.heap.size < w.heap.size + 1 := by omega
        refine KT.set lg _ _ _ _ (KT.set lg _ _ _ _ (KT.set lg _ _ _ _ (KT.set lg _ _ _ _ (KT.set lg _ _ _ _ ?_))))
        by_cases e : i = k
        · rw [if_pos e, e, ← HQ.out]; exact KT.le (by omega) _ _ hu
        · rw [if_neg e]; exact KT.below hb2 _ _ (hks'.out i (by omega))
      clear hu hks'
      go_wp2_with fail
      go_roundw
      case rel => exact ⟨k + 1, by omega, by go_num, _, ho3, HK, by simp; omega, hb3⟩
      case measure => first | (simp [intOf]; done) | (simp [intOf]; omega)
    · have hkn := mkhid (show k = n by omega)
      have hfin := RRow.sl (RRow.q ho (by rw [hkn.out])) hn
      have hres := mkhid (HM.out _ _ _ hfin (Nat.le_refl _) (fun i hi => KT.le (Nat.le_succ _) _ _ (hks'.out i (by rw [hkn.out]; exact hi))))
      clear ih hk hr hks
      go_wp2
      go_ret
      exact ⟨_, rfl, hres.out, hbr⟩
set_option maxHeartbeats 1000000 in
theorem toPlan_c : ∀ t, ToP t := by
  refine Pl.ind fun t ih => ?_
  intro B v w h hs
  have HC := fun W (hb : Below w.heap.size w W) => toPlanS_c t ih B v W (KT.below hb _ _ h) hs
  obtain ⟨x0, hx0⟩ : ∃ x, x = t.op := ⟨_, rfl⟩
  obtain ⟨x1, hx1⟩ : ∃ x, x = t.pos := ⟨_, rfl⟩
  obtain ⟨x2, hx2⟩ : ∃ x, x = t.pane := ⟨_, rfl⟩
  obtain ⟨x3, hx3⟩ : ∃ x, x = t.tu := ⟨_, rfl⟩
  rw [← hx0, ← hx1, ← hx2, ← hx3]
  clear hx0 hx1 hx2 hx3 ih h
  go_enter Try.func16, Try.ntmps16
  go_wp2_with fail
  go_at_call 55
  refine (HC _ (by repeat' (first | with_reducible exact Below.refl _ _ | with_reducible refine Below.alloc ?_ (by first | omega | (simp; done) | (simp; omega)) _ | with_reducible refine Below.drew ?_ | with_reducible refine below_drewN ?_ _ | with_reducible refine Below.setCell ?_ (by first | omega | (simp; done) | (simp; omega)) _ | with_reducible refine Below.grown ?_ (by assumption) (by first | omega | (simp; done) | (simp; omega)) (by intro k hk; cases hk; omega) | with_reducible refine Below.trans ?_ (Below.mono (by assumption) (by first | omega | (simp; done) | (simp; omega)))))).mono ?_
  rintro e w2 ⟨u, rfl, hu, hb2⟩
  obtain ⟨_, pu, cu, hfu, _⟩ := hu.form
  obtain ⟨n, hn⟩ : ∃ m, m = t.n := ⟨_, rfl⟩
  rw [← hn] at hfu
  subst hfu
  clear hn
  obtain ⟨hc2, hf2, -, hz2⟩ := bcell hb2
  (try simp at hz2)
  have z0 : w.heap.size < w2.heap.size := by omega
  have z1 : w.heap.size + 1 < w2.heap.size := by omega
  have z2 : w.heap.size + 1 + 1 < w2.heap.size := by omega
  have hu := KT.le (B' := w.heap.size + 3) (by simp) _ _ hu
  go_wp2_with fail
  refine bodyPost_ret (v := (.agg #[.int .i64 x0, .int .i64 x1, .int .i64 x2, .bool x3, .slice pu n cu])) (by simp [results, Try.results16, go_sem, *]) rfl ⟨_, rfl, ?_, (by repeat' (first | with_reducible exact Below.refl _ _ | with_reducible refine Below.alloc ?_ (by first | omega | (simp; done) | (simp; omega)) _ | with_reducible refine Below.drew ?_ | with_reducible refine below_drewN ?_ _ | with_reducible refine Below.setCell ?_ (by first | omega | (simp; done) | (simp; omega)) _ | with_reducible refine Below.grown ?_ (by assumption) (by first | omega | (simp; done) | (simp; omega)) (by intro k hk; cases hk; omega) | with_reducible refine Below.trans ?_ (Below.mono (by assumption) (by first | omega | (simp; done) | (simp; omega)))))⟩
  have l1 : w.heap.size + 1 < w.heap.size + 3 := by omega
  have l2 : w.heap.size + 1 + 1 < w.heap.size + 3 := by omega
  exact KT.le (by omega) _ _ (KT.set l1 _ _ _ _ (KT.set l1 _ _ _ _ (KT.set l1 _ _ _ _ (KT.set l1 _ _ _ _ (KT.set l1 _ _ _ _ (KT.set l2 _ _ _ _ hu))))))
/-- what eqPlan does with two alike -/
def EqP (t : Pl) : Prop := ∀ (B1 B2 : Nat) (v1 v2 : Value) (w : World), KT B1 w t v1 → KT B2 w t v2 → t.sz ≤ 1048576 → Calls Try.prog 18 #[(.agg #[.int .i64 t.op, .int .i64 t.pos, .int .i64 t.pane, .bool t.tu, v1]), (.agg #[.int .i64 t.op, .int .i64 t.pos, .int .i64 t.pane, .bool t.tu, v2])] w (Rt (.bool true) w)
set_option maxHeartbeats 1600000 in
theorem eqPlanS_c (t : Pl) (ih : ∀ i, i < t.n → EqP (t.kid i)) (B1 B2 : Nat) (v1 v2 : Value) (w : World) (h1 : KT B1 w t v1) (h2 : KT B2 w t v2) (hs : t.sz ≤ 1048576) : Calls Try.prog 56 #[v1, v2] w (Rt (.bool true) w) := by
  have hn : t.n ≤ 1048576 := Nat.le_trans t.sz_n hs
  obtain ⟨p, cap, kv, rfl, hk, hr⟩ := h1.rsl hn
  obtain ⟨p', cap', kv', rfl, hk', hr'⟩ := h2.rsl hn
  have hks := fun i (hi : i < t.n) => Nat.le_trans (t.sz_kid hi) hs
  obtain ⟨n, hnn⟩ : ∃ n, t.n = n := ⟨_, rfl⟩
  rw [hnn] at hn hk hr hk' hr' hks ih ⊢
  clear hnn h1 h2 hs
  have HR := mkhid (⟨ih, hk, hr, hk', hr', hks⟩ : _ ∧ _ ∧ _ ∧ _ ∧ _ ∧ _)
  clear ih hk hr hk' hr' hks
  have e0 : ((n : Int) != (n : Int)) = false := by simp
  go_enter Try.func56, Try.ntmps56
  go_wp2_with fail
  go_loopw [5] (fun i wr => ∃ k : Nat, k ≤ n ∧ i = .int .i64 k ∧ Below w.heap.size w wr) (fun i _ => n - (intOf i).toNat)
  case atStart => exact ⟨0, Nat.zero_le _, rfl, Below.refl _ _⟩
  case round =>
    obtain ⟨k, hkn, rfl, hbr⟩ := hrel
    obtain ⟨ih, hk, hr, hk', hr', hks⟩ := HR.out
    have hsz := hbr.size
    by_cases hlt : k < n
    · have i1 : (0 : Int) ≤ (k : Int) := by omega
      have i2 : (k : Int) < (n : Int) := by omega
      obtain ⟨b, off, rfl, hbb, hR⟩ := hr k hlt
      obtain ⟨b', off', rfl, hbb', hR'⟩ := hr' k hlt
      obtain ⟨c0, c1, c2, c3, c4⟩ := plan_cells (hR.below hbr) hlt
      obtain ⟨d0, d1, d2, d3, d4⟩ := plan_cells (hR'.below hbr) hlt
      have HC := fun W (hb : Below w.heap.size w W) => ih k hlt B1 B2 (kv k) (kv' k) W (KT.below hb _ _ (hk k hlt)) (KT.below hb _ _ (hk' k hlt)) (hks k hlt)
      obtain ⟨q, hq⟩ : ∃ q, q = t.kid k := ⟨_, rfl⟩
      rw [← hq] at c0 c1 c2 c3 d0 d1 d2 d3 HC
      obtain ⟨x0, hx0⟩ : ∃ x, x = q.op := ⟨_, rfl⟩
      obtain ⟨x1, hx1⟩ : ∃ x, x = q.pos := ⟨_, rfl⟩
      obtain ⟨x2, hx2⟩ : ∃ x, x = q.pane := ⟨_, rfl⟩
      obtain ⟨x3, hx3⟩ : ∃ x, x = q.tu := ⟨_, rfl⟩
      obtain ⟨x4, hx4⟩ : ∃ x, x = kv k := ⟨_, rfl⟩
      obtain ⟨x5, hx5⟩ : ∃ x, x = kv' k := ⟨_, rfl⟩
      rw [← hx0, ← hx1, ← hx2, ← hx3, ← hx4, ← hx5] at HC
      rw [← hx0] at c0 d0
      rw [← hx1] at c1 d1
      rw [← hx2] at c2 d2
      rw [← hx3] at c3 d3
      rw [← hx4] at c4
      rw [← hx5] at d4
      clear hx0 hx1 hx2 hx3 hx4 hx5 hq ih hk hr hk' hr' hks
      go_wp2_with fail
      go_region_with (first | (go_at_call 18; refine (HC _ (by repeat' (first | with_reducible exact Below.refl _ _ | with_reducible refine Below.alloc ?_ (by first | omega | (simp; done) | (simp; omega)) _ | with_reducible refine Below.drew ?_ | with_reducible refine below_drewN ?_ _ | with_reducible refine Below.setCell ?_ (by first | omega | (simp; done) | (simp; omega)) _ | with_reducible refine Below.grown ?_ (by assumption) (by first | omega | (simp; done) | (simp; omega)) (by intro k hk; cases hk; omega) | with_reducible refine Below.trans ?_ (Below.mono (by assumption) (by first | omega | (simp; done) | (simp; omega)))))).mono ?_; rintro e w2 ⟨rfl, hb2⟩))
      all_goals go_wp2_with fail
      all_goals go_roundw
      case rel => exact ⟨k + 1, by omega, by go_num, (by repeat' (first | with_reducible exact Below.refl _ _ | with_reducible refine Below.alloc ?_ (by first | omega | (simp; done) | (simp; omega)) _ | with_reducible refine Below.drew ?_ | with_reducible refine below_drewN ?_ _ | with_reducible refine Below.setCell ?_ (by first | omega | (simp; done) | (simp; omega)) _ | with_reducible refine Below.grown ?_ (by assumption) (by first | omega | (simp; done) | (simp; omega)) (by intro k hk; cases hk; omega) | with_reducible refine Below.trans ?_ (Below.mono (by assumption) (by first | omega | (simp; done) | (simp; omega)))))⟩
      all_goals (first | (simp [intOf]; omega) | exact ⟨k + 1, by omega, by go_num, (by repeat' (first | with_reducible exact Below.refl _ _ | with_reducible refine Below.alloc ?_ (by first | omega | (simp; done) | (simp; omega)) _ | with_reducible refine Below.drew ?_ | with_reducible refine below_drewN ?_ _ | with_reducible refine Below.setCell ?_ (by first | omega | (simp; done) | (simp; omega)) _ | with_reducible refine Below.grown ?_ (by assumption) (by first | omega | (simp; done) | (simp; omega)) (by intro k hk; cases hk; omega) | with_reducible refine Below.trans ?_ (Below.mono (by assumption) (by first | omega | (simp; done) | (simp; omega)))))⟩ | trace_state)
    · go_wp2
      go_ret
      exact ⟨rfl, hbr⟩
set_option maxHeartbeats 1000000 in
theorem eqPlan_c : ∀ t, EqP t := by
  refine Pl.ind fun t ih => ?_
  intro B1 B2 v1 v2 w h1 h2 hs
  have HC := fun W (hb : Below w.heap.size w W) => eqPlanS_c t ih B1 B2 v1 v2 W (KT.below hb _ _ h1) (KT.below hb _ _ h2) hs
  obtain ⟨x0, hx0⟩ : ∃ x, x = t.op := ⟨_, rfl⟩
  obtain ⟨x1, hx1⟩ : ∃ x, x = t.pos := ⟨_, rfl⟩
  obtain ⟨x2, hx2⟩ : ∃ x, x = t.pane := ⟨_, rfl⟩
  obtain ⟨x3, hx3⟩ : ∃ x, x = t.tu := ⟨_, rfl⟩
  rw [← hx0, ← hx1, ← hx2, ← hx3]
  clear hx0 hx1 hx2 hx3 ih h1 h2
  go_enter Try.func18, Try.ntmps18
  go_wp2_with (go_at_call 56; refine (HC _ (by repeat' (first | with_reducible exact Below.refl _ _ | with_reducible refine Below.alloc ?_ (by first | omega | (simp; done) | (simp; omega)) _ | with_reducible refine Below.drew ?_ | with_reducible refine below_drewN ?_ _ | with_reducible refine Below.setCell ?_ (by first | omega | (simp; done) | (simp; omega)) _ | with_reducible refine Below.grown ?_ (by assumption) (by first | omega | (simp; done) | (simp; omega)) (by intro k hk; cases hk; omega) | with_reducible refine Below.trans ?_ (Below.mono (by assumption) (by first | omega | (simp; done) | (simp; omega)))))).mono ?_; rintro e w2 ⟨rfl, hb2⟩)
  go_ret
  exact ⟨rfl, (by repeat' (first | with_reducible exact Below.refl _ _ | with_reducible refine Below.alloc ?_ (by first | omega | (simp; done) | (simp; omega)) _ | with_reducible refine Below.drew ?_ | with_reducible refine below_drewN ?_ _ | with_reducible refine Below.setCell ?_ (by first | omega | (simp; done) | (simp; omega)) _ | with_reducible refine Below.grown ?_ (by assumption) (by first | omega | (simp; done) | (simp; omega)) (by intro k hk; cases hk; omega) | with_reducible refine Below.trans ?_ (Below.mono (by assumption) (by first | omega | (simp; done) | (simp; omega)))))⟩
end Go.Proofs.Ytjanjaabcinkiaa
