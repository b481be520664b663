/- LeftOver of spec and impl; no statement is proved here. -/
import Derived.Test.YtimfabpigpcjhaaLefS
namespace Go.Proofs.Ytimfabpigpcjhaa
open Go.ChangeShapes Go.WideShapes Go.ChangeAt Go.RowKit
set_option linter.unusedVariables false
set_option linter.unusedSimpArgs false

def okP (b : Bx) : Bool := decide (0 < b.w) && decide (0 < b.h)
@[irreducible] def flP (bs : List Bx) (k : Nat) : List Bx := (bs.take k).filter okP
theorem flP_zero (bs : List Bx) : flP bs 0 = [] := by unfold flP; simp
theorem flP_len (bs : List Bx) (k : Nat) : (flP bs k).length ≤ bs.length := by
  unfold flP
  exact Nat.le_trans (List.length_filter_le _ _) (by rw [List.length_take]; omega)
theorem flP_y {bs : List Bx} {k : Nat} (hk : k < bs.length) (h1 : 0 < (bx bs k).w) (h2 : 0 < (bx bs k).h) : flP bs k ++ [bx bs k] = flP bs (k + 1) := by
  have e : bx bs k = bs[k] := by simp [bx, List.getD, hk]
  unfold flP
  rw [List.take_succ_eq_append_getElem hk, List.filter_append, ← e]
  simp [okP, h1, h2]
theorem flP_n {bs : List Bx} {k : Nat} (hk : k < bs.length) (h : ¬ (0 < (bx bs k).w ∧ 0 < (bx bs k).h)) : flP bs k = flP bs (k + 1) := by
  have e : bx bs k = bs[k] := by simp [bx, List.getD, hk]
  unfold flP
  rw [List.take_succ_eq_append_getElem hk, List.filter_append, ← e]
  have : okP (bx bs k) = false := by unfold okP; rw [← Bool.decide_and]; exact decide_eq_false h
  simp [this]
theorem flP_parts {a m : Bx} (h1 : 0 < a.h) (h2 : 0 < m.w) : flP [q1 a m, q2 a m, q3 a m, q4 a m] 4 = leftP a m := by
  unfold flP leftP
  have o1 : okP (q1 a m) = decide (a.x < m.x) := by simp only [okP, q1, h1, decide_true, Bool.and_true]; exact decide_eq_decide.2 (by omega)
  have o2 : okP (q2 a m) = decide (m.x + m.w < a.x + a.w) := by simp only [okP, q2, h1, decide_true, Bool.and_true]; exact decide_eq_decide.2 (by omega)
  have o3 : okP (q3 a m) = decide (a.y < m.y) := by simp only [okP, q3, h2, decide_true, Bool.true_and]; exact decide_eq_decide.2 (by omega)
  have o4 : okP (q4 a m) = decide (m.y + m.h < a.y + a.h) := by simp only [okP, q4, h2, decide_true, Bool.true_and]; exact decide_eq_decide.2 (by omega)
  simp only [List.take_succ_cons, List.take_zero, List.filter_cons, List.filter_nil, o1, o2, o3, o4, decide_eq_true_eq]
  split <;> split <;> split <;> split <;> rfl
theorem OwnX.rsl {w : World} {B g n cap : Nat} {bs : List Bx} (h : OwnX w B (.slice (some ⟨g, 0, none⟩) n cap) bs) (hn : bs.length = n) (hl : n ≤ 1048576) : RSl w g 0 n cap 4 (bxF bs) := by
  subst hn
  rcases h.forms hl with ⟨h1, _⟩ | ⟨g', cap', h1, _, hr⟩
  · simp at h1
  · simp only [Value.slice.injEq, Option.some.injEq, Addr.mk.injEq, and_true, true_and] at h1
    obtain ⟨rfl, rfl⟩ := h1
    exact hr
set_option maxHeartbeats 1000000 in
theorem spec_LeftOver_c (ax ay aw ah bx by' bw bh : Int) (w : World) : Calls Try.prog 21 #[(.agg #[.int .i64 ax, .int .i64 ay, .int .i64 aw, .int .i64 ah]), (.agg #[.int .i64 bx, .int .i64 by', .int .i64 bw, .int .i64 bh])] w (FrL (leftR ⟨ax, ay, aw, ah⟩ ⟨bx, by', bw, bh⟩) w) := by
  cases ha : vBox ax ay aw ah
  · have hl : Hid (leftR ⟨ax, ay, aw, ah⟩ ⟨bx, by', bw, bh⟩ = []) := leftR_no (fun h => by have := h.1; unfold okB at this; rw [ha] at this; cases this)
    go_enter Try.func21, Try.ntmps21
    go_wp2_with (first | (go_at_call 40; refine (spec_validBox_c _ _ _ _ _).mono ?_; rintro e w1 ⟨rfl, hb1⟩; obtain ⟨hc1, hf1, -, hz1⟩ := bcell hb1; (try simp at hz1); (try (have zw0 : w.heap.size < w1.heap.size := by omega)); (try (have zw1 : w.heap.size + 1 < w1.heap.size := by omega)); (try (have zw2 : w.heap.size + 1 + 1 < w1.heap.size := by omega)); (try (have zw3 : w.heap.size + 1 + 1 + 1 < w1.heap.size := by omega)); (try (have zw4 : w.heap.size + 1 + 1 + 1 + 1 < w1.heap.size := by omega)); (try (have zw5 : w.heap.size + 1 + 1 + 1 + 1 + 1 < w1.heap.size := by omega))))
    go_ret
    refine ⟨_, rfl, ?_, (by repeat' (first | with_reducible exact Below.refl _ _ | with_reducible refine Below.alloc ?_ (by first | omega | (simp; done) | (simp; omega)) _ | with_reducible refine Below.drew ?_ | with_reducible refine below_drewN ?_ _ | with_reducible refine Below.setCell ?_ (by first | omega | (simp; done) | (simp; omega)) _ | with_reducible refine Below.grown ?_ (by assumption) (by first | omega | (simp; done) | (simp; omega)) (by intro k hk; cases hk; omega) | with_reducible refine Below.trans ?_ (Below.mono (by assumption) (by first | omega | (simp; done) | (simp; omega)))))⟩
    rw [hl.out]
    exact ownX_nil _ _
  · cases hb : vBox bx by' bw bh
    · have hl : Hid (leftR ⟨ax, ay, aw, ah⟩ ⟨bx, by', bw, bh⟩ = []) := leftR_no (fun h => by have := h.2; unfold okB at this; rw [hb] at this; cases this)
      go_enter Try.func21, Try.ntmps21
      go_wp2_with (first | (go_at_call 40; refine (spec_validBox_c _ _ _ _ _).mono ?_; rintro e w1 ⟨rfl, hb1⟩; obtain ⟨hc1, hf1, -, hz1⟩ := bcell hb1; (try simp at hz1); (try (have zw0 : w.heap.size < w1.heap.size := by omega)); (try (have zw1 : w.heap.size + 1 < w1.heap.size := by omega)); (try (have zw2 : w.heap.size + 1 + 1 < w1.heap.size := by omega)); (try (have zw3 : w.heap.size + 1 + 1 + 1 < w1.heap.size := by omega)); (try (have zw4 : w.heap.size + 1 + 1 + 1 + 1 < w1.heap.size := by omega)); (try (have zw5 : w.heap.size + 1 + 1 + 1 + 1 + 1 < w1.heap.size := by omega))))
      go_ret
      refine ⟨_, rfl, ?_, (by repeat' (first | with_reducible exact Below.refl _ _ | with_reducible refine Below.alloc ?_ (by first | omega | (simp; done) | (simp; omega)) _ | with_reducible refine Below.drew ?_ | with_reducible refine below_drewN ?_ _ | with_reducible refine Below.setCell ?_ (by first | omega | (simp; done) | (simp; omega)) _ | with_reducible refine Below.grown ?_ (by assumption) (by first | omega | (simp; done) | (simp; omega)) (by intro k hk; cases hk; omega) | with_reducible refine Below.trans ?_ (Below.mono (by assumption) (by first | omega | (simp; done) | (simp; omega)))))⟩
      rw [hl.out]
      exact ownX_nil _ _
    · have CL := fun W => spec_leftOver_c ax ay aw ah bx by' bw bh W ha hb
      go_enter Try.func21, Try.ntmps21
      go_wp2_with (first | (go_at_call 40; refine (spec_validBox_c _ _ _ _ _).mono ?_; rintro e w1 ⟨rfl, hb1⟩; obtain ⟨hc1, hf1, -, hz1⟩ := bcell hb1; (try simp at hz1); (try (have zw0 : w.heap.size < w1.heap.size := by omega)); (try (have zw1 : w.heap.size + 1 < w1.heap.size := by omega)); (try (have zw2 : w.heap.size + 1 + 1 < w1.heap.size := by omega)); (try (have zw3 : w.heap.size + 1 + 1 + 1 < w1.heap.size := by omega)); (try (have zw4 : w.heap.size + 1 + 1 + 1 + 1 < w1.heap.size := by omega)); (try (have zw5 : w.heap.size + 1 + 1 + 1 + 1 + 1 < w1.heap.size := by omega))) | (go_at_call 52; refine (CL _).mono ?_; rintro e w2 ⟨v, rfl, hw, hb2⟩; have hz2 := hb2.size))
      go_ret
      refine ⟨_, rfl, hw.le (by first | omega | (simp; omega)), (by repeat' (first | with_reducible exact Below.refl _ _ | with_reducible refine Below.alloc ?_ (by first | omega | (simp; done) | (simp; omega)) _ | with_reducible refine Below.drew ?_ | with_reducible refine below_drewN ?_ _ | with_reducible refine Below.setCell ?_ (by first | omega | (simp; done) | (simp; omega)) _ | with_reducible refine Below.grown ?_ (by assumption) (by first | omega | (simp; done) | (simp; omega)) (by intro k hk; cases hk; omega) | with_reducible refine Below.trans ?_ (Below.mono (by assumption) (by first | omega | (simp; done) | (simp; omega)))))⟩
set_option maxHeartbeats 2000000 in
theorem impl_LeftOver_c (ax ay aw ah bx by' bw bh : Int) (w : World) : Calls Try.prog 19 #[(.agg #[.int .i64 ax, .int .i64 ay, .int .i64 aw, .int .i64 ah]), (.agg #[.int .i64 bx, .int .i64 by', .int .i64 bw, .int .i64 bh])] w (FrL (leftR ⟨ax, ay, aw, ah⟩ ⟨bx, by', bw, bh⟩) w) := by
  cases ha : vBox ax ay aw ah
  · have hl : Hid (leftR ⟨ax, ay, aw, ah⟩ ⟨bx, by', bw, bh⟩ = []) := leftR_no (fun h => by have := h.1; unfold okB at this; rw [ha] at this; cases this)
    go_enter Try.func19, Try.ntmps19
    go_wp2_with (first | (go_at_call 22; refine (impl_ValidBox_c _ _ _ _ _).mono ?_; rintro e w1 ⟨rfl, hb1⟩; obtain ⟨hc1, hf1, -, hz1⟩ := bcell hb1; (try simp at hz1); (try (have zw0 : w.heap.size < w1.heap.size := by omega)); (try (have zw1 : w.heap.size + 1 < w1.heap.size := by omega)); (try (have zw2 : w.heap.size + 1 + 1 < w1.heap.size := by omega)); (try (have zw3 : w.heap.size + 1 + 1 + 1 < w1.heap.size := by omega)); (try (have zw4 : w.heap.size + 1 + 1 + 1 + 1 < w1.heap.size := by omega)); (try (have zw5 : w.heap.size + 1 + 1 + 1 + 1 + 1 < w1.heap.size := by omega))))
    go_ret
    refine ⟨_, rfl, ?_, (by repeat' (first | with_reducible exact Below.refl _ _ | with_reducible refine Below.alloc ?_ (by first | omega | (simp; done) | (simp; omega)) _ | with_reducible refine Below.drew ?_ | with_reducible refine below_drewN ?_ _ | with_reducible refine Below.setCell ?_ (by first | omega | (simp; done) | (simp; omega)) _ | with_reducible refine Below.grown ?_ (by assumption) (by first | omega | (simp; done) | (simp; omega)) (by intro k hk; cases hk; omega) | with_reducible refine Below.trans ?_ (Below.mono (by assumption) (by first | omega | (simp; done) | (simp; omega)))))⟩
    rw [hl.out]
    exact ownX_nil _ _
  · cases hb : vBox bx by' bw bh
    · have hl : Hid (leftR ⟨ax, ay, aw, ah⟩ ⟨bx, by', bw, bh⟩ = []) := leftR_no (fun h => by have := h.2; unfold okB at this; rw [hb] at this; cases this)
      go_enter Try.func19, Try.ntmps19
      go_wp2_with (first | (go_at_call 22; refine (impl_ValidBox_c _ _ _ _ _).mono ?_; rintro e w1 ⟨rfl, hb1⟩; obtain ⟨hc1, hf1, -, hz1⟩ := bcell hb1; (try simp at hz1); (try (have zw0 : w.heap.size < w1.heap.size := by omega)); (try (have zw1 : w.heap.size + 1 < w1.heap.size := by omega)); (try (have zw2 : w.heap.size + 1 + 1 < w1.heap.size := by omega)); (try (have zw3 : w.heap.size + 1 + 1 + 1 < w1.heap.size := by omega)); (try (have zw4 : w.heap.size + 1 + 1 + 1 + 1 < w1.heap.size := by omega)); (try (have zw5 : w.heap.size + 1 + 1 + 1 + 1 + 1 < w1.heap.size := by omega))))
      go_ret
      refine ⟨_, rfl, ?_, (by repeat' (first | with_reducible exact Below.refl _ _ | with_reducible refine Below.alloc ?_ (by first | omega | (simp; done) | (simp; omega)) _ | with_reducible refine Below.drew ?_ | with_reducible refine below_drewN ?_ _ | with_reducible refine Below.setCell ?_ (by first | omega | (simp; done) | (simp; omega)) _ | with_reducible refine Below.grown ?_ (by assumption) (by first | omega | (simp; done) | (simp; omega)) (by intro k hk; cases hk; omega) | with_reducible refine Below.trans ?_ (Below.mono (by assumption) (by first | omega | (simp; done) | (simp; omega)))))⟩
      rw [hl.out]
      exact ownX_nil _ _
    · cases hm : meets ax ay aw ah bx by' bw bh
      · have hl : Hid (leftR ⟨ax, ay, aw, ah⟩ ⟨bx, by', bw, bh⟩ = [⟨ax, ay, aw, ah⟩]) := leftR_a ha hb hm
        have CM := fun w' => impl_MeetOf_c ax ay aw ah bx by' bw bh w'
        rw [meetVal_no (by rw [hm]; simp)] at CM
        have h0 := Nat.le_refl w.heap.size
        go_enter Try.func19, Try.ntmps19
        go_wp2_with fail
        go_at_call 22
        refine (impl_ValidBox_c _ _ _ _ _).mono ?_
        rintro e w1 ⟨rfl, hb1⟩
        obtain ⟨hc1, hf1, -, hz1⟩ := bcell hb1
        (try simp at hz1)
        (try (have y1 : w.heap.size ≤ w1.heap.size := by omega))
        (try (have z1_0_0 : w.heap.size < w1.heap.size := by omega))
        (try (have z1_0_1 : w.heap.size + 1 < w1.heap.size := by omega))
        (try (have z1_0_2 : w.heap.size + 1 + 1 < w1.heap.size := by omega))
        (try (have z1_0_3 : w.heap.size + 1 + 1 + 1 < w1.heap.size := by omega))
        go_wp2_with fail
        go_at_call 22
        refine (impl_ValidBox_c _ _ _ _ _).mono ?_
        rintro e w2 ⟨rfl, hb2⟩
        obtain ⟨hc2, hf2, -, hz2⟩ := bcell hb2
        (try simp at hz2)
        (try (have y2 : w.heap.size ≤ w2.heap.size := by omega))
        (try (have z2_0_0 : w.heap.size < w2.heap.size := by omega))
        (try (have z2_0_1 : w.heap.size + 1 < w2.heap.size := by omega))
        (try (have z2_0_2 : w.heap.size + 1 + 1 < w2.heap.size := by omega))
        (try (have z2_0_3 : w.heap.size + 1 + 1 + 1 < w2.heap.size := by omega))
        (try (have z2_1_0 : w1.heap.size < w2.heap.size := by omega))
        (try (have z2_1_1 : w1.heap.size + 1 < w2.heap.size := by omega))
        go_wp2_with fail
        go_at_call 12
        refine (CM _).mono ?_
        rintro e w3 ⟨rfl, hb3⟩
        obtain ⟨hc3, hf3, -, hz3⟩ := bcell hb3
        (try simp at hz3)
        (try (have y3 : w.heap.size ≤ w3.heap.size := by omega))
        (try (have z3_0_0 : w.heap.size < w3.heap.size := by omega))
        (try (have z3_0_1 : w.heap.size + 1 < w3.heap.size := by omega))
        (try (have z3_0_2 : w.heap.size + 1 + 1 < w3.heap.size := by omega))
        (try (have z3_0_3 : w.heap.size + 1 + 1 + 1 < w3.heap.size := by omega))
        (try (have z3_1_0 : w1.heap.size < w3.heap.size := by omega))
        (try (have z3_1_1 : w1.heap.size + 1 < w3.heap.size := by omega))
        (try (have z3_2_0 : w2.heap.size < w3.heap.size := by omega))
        (try (have z3_2_1 : w2.heap.size + 1 < w3.heap.size := by omega))
        go_wp2_with fail
        go_ret
        refine ⟨_, rfl, ?_, (by repeat' (first | with_reducible exact Below.refl _ _ | with_reducible refine Below.alloc ?_ (by first | omega | (simp; done) | (simp; omega)) _ | with_reducible refine Below.drew ?_ | with_reducible refine below_drewN ?_ _ | with_reducible refine Below.setCell ?_ (by first | omega | (simp; done) | (simp; omega)) _ | with_reducible refine Below.grown ?_ (by assumption) (by first | omega | (simp; done) | (simp; omega)) (by intro k hk; cases hk; omega) | with_reducible refine Below.trans ?_ (Below.mono (by assumption) (by first | omega | (simp; done) | (simp; omega)))))⟩
        rw [hl.out]
        have hx := ownX_lit (w3.alloc (.cells #[(.int .i64 0), (.int .i64 0), (.int .i64 0), (.int .i64 0)] 24)) w.heap.size (by simp; omega) #[(.int .i64 ax), (.int .i64 ay), (.int .i64 aw), (.int .i64 ah)] [⟨ax, ay, aw, ah⟩] rfl (by simp)
        exact hx.form1 (by simp)
      · obtain ⟨i0, hi, iz0, iz1, iz2⟩ := info_parts infoBox
        obtain ⟨a1, a2, a3, a4, a5, a6, a7, a8⟩ := vBox_bd ha
        obtain ⟨b1, b2, b3, b4, b5, b6, b7, b8⟩ := vBox_bd hb
        obtain ⟨mx, hmx⟩ : ∃ m, m = mX ax bx := ⟨_, rfl⟩
        obtain ⟨my, hmy⟩ : ∃ m, m = mX ay by' := ⟨_, rfl⟩
        obtain ⟨mw, hmw⟩ : ∃ m, m = mW ax aw bx bw := ⟨_, rfl⟩
        obtain ⟨mh, hmh⟩ : ∃ m, m = mW ay ah by' bh := ⟨_, rfl⟩
        have CM := fun w' => impl_MeetOf_c ax ay aw ah bx by' bw bh w'
        rw [meetVal_yes ha hb hm, ← hmx, ← hmy, ← hmw, ← hmh] at CM
        obtain ⟨ps, hps⟩ : ∃ ps, ps = [q1 ⟨ax, ay, aw, ah⟩ ⟨mx, my, mw, mh⟩, q2 ⟨ax, ay, aw, ah⟩ ⟨mx, my, mw, mh⟩, q3 ⟨ax, ay, aw, ah⟩ ⟨mx, my, mw, mh⟩, q4 ⟨ax, ay, aw, ah⟩ ⟨mx, my, mw, mh⟩] := ⟨_, rfl⟩
        have hpl : ps.length = 4 := by rw [hps]; rfl
        unfold meets at hm
        obtain ⟨m1, m2⟩ := of_decide_eq_true hm
        rw [← hmw] at m1
        rw [← hmh] at m2
        have hl : Hid (leftR ⟨ax, ay, aw, ah⟩ ⟨bx, by', bw, bh⟩ = flP ps 4) := by
          show _ = _
          rw [hps, flP_parts (a := ⟨ax, ay, aw, ah⟩) (m := ⟨mx, my, mw, mh⟩) (by show 0 < ah; omega) m1, hmx, hmy, hmw, hmh]
          exact leftR_p ha hb (by unfold mtX meets; exact hm)
        rw [mX_eq] at hmx hmy
        rw [mW_eq] at hmw hmh
        have m3 : 0 ≤ mx ∧ mx ≤ 200 ∧ mw ≤ 200 ∧ 0 ≤ my ∧ my ≤ 200 ∧ mh ≤ 200 := by omega
        obtain ⟨m3, m4, m5, m6, m7, m8⟩ := m3
        have hps' := mkhid hps
        clear hm hmx hmy hmw hmh hps
        have h0 := Nat.le_refl w.heap.size
        have s1 : IntKind.i64.wrap (mx - ax) = mx - ax := IntWalk.i64_in _ (by omega)
        have s2 : IntKind.i64.wrap (mx + mw) = mx + mw := IntWalk.i64_in _ (by omega)
        have s3 : IntKind.i64.wrap (ax + aw) = ax + aw := IntWalk.i64_in _ (by omega)
        have s4 : IntKind.i64.wrap (ax + aw - mx) = ax + aw - mx := IntWalk.i64_in _ (by omega)
        have s5 : IntKind.i64.wrap (ax + aw - mx - mw) = ax + aw - mx - mw := IntWalk.i64_in _ (by omega)
        have s6 : IntKind.i64.wrap (my - ay) = my - ay := IntWalk.i64_in _ (by omega)
        have s7 : IntKind.i64.wrap (my + mh) = my + mh := IntWalk.i64_in _ (by omega)
        have s8 : IntKind.i64.wrap (ay + ah) = ay + ah := IntWalk.i64_in _ (by omega)
        have s9 : IntKind.i64.wrap (ay + ah - my) = ay + ah - my := IntWalk.i64_in _ (by omega)
        have sa : IntKind.i64.wrap (ay + ah - my - mh) = ay + ah - my - mh := IntWalk.i64_in _ (by omega)
        go_enter Try.func19, Try.ntmps19
        go_wp2_with fail
        go_at_call 22
        refine (impl_ValidBox_c _ _ _ _ _).mono ?_
        rintro e w1 ⟨rfl, hb1⟩
        obtain ⟨hc1, hf1, -, hz1⟩ := bcell hb1
        (try simp at hz1)
        (try (have y1 : w.heap.size ≤ w1.heap.size := by omega))
        (try (have z1_0_0 : w.heap.size < w1.heap.size := by omega))
        (try (have z1_0_1 : w.heap.size + 1 < w1.heap.size := by omega))
        (try (have z1_0_2 : w.heap.size + 1 + 1 < w1.heap.size := by omega))
        (try (have z1_0_3 : w.heap.size + 1 + 1 + 1 < w1.heap.size := by omega))
        go_wp2_with fail
        go_at_call 22
        refine (impl_ValidBox_c _ _ _ _ _).mono ?_
        rintro e w2 ⟨rfl, hb2⟩
        obtain ⟨hc2, hf2, -, hz2⟩ := bcell hb2
        (try simp at hz2)
        (try (have y2 : w.heap.size ≤ w2.heap.size := by omega))
        (try (have z2_0_0 : w.heap.size < w2.heap.size := by omega))
        (try (have z2_0_1 : w.heap.size + 1 < w2.heap.size := by omega))
        (try (have z2_0_2 : w.heap.size + 1 + 1 < w2.heap.size := by omega))
        (try (have z2_0_3 : w.heap.size + 1 + 1 + 1 < w2.heap.size := by omega))
        (try (have z2_1_0 : w1.heap.size < w2.heap.size := by omega))
        (try (have z2_1_1 : w1.heap.size + 1 < w2.heap.size := by omega))
        go_wp2_with fail
        go_at_call 12
        refine (CM _).mono ?_
        rintro e w3 ⟨rfl, hb3⟩
        obtain ⟨hc3, hf3, -, hz3⟩ := bcell hb3
        (try simp at hz3)
        (try (have y3 : w.heap.size ≤ w3.heap.size := by omega))
        (try (have z3_0_0 : w.heap.size < w3.heap.size := by omega))
        (try (have z3_0_1 : w.heap.size + 1 < w3.heap.size := by omega))
        (try (have z3_0_2 : w.heap.size + 1 + 1 < w3.heap.size := by omega))
        (try (have z3_0_3 : w.heap.size + 1 + 1 + 1 < w3.heap.size := by omega))
        (try (have z3_1_0 : w1.heap.size < w3.heap.size := by omega))
        (try (have z3_1_1 : w1.heap.size + 1 < w3.heap.size := by omega))
        (try (have z3_2_0 : w2.heap.size < w3.heap.size := by omega))
        (try (have z3_2_1 : w2.heap.size + 1 < w3.heap.size := by omega))
        go_wp2_with fail
        clear s1 s2 s3 s4 s5 s6 s7 s8 s9 sa
        have hx := ownX_lit (w3.alloc (.cells #[(.int .i64 mx), (.int .i64 my), (.int .i64 mw), (.int .i64 mh)] 24)) (w3.heap.size + 1) (by simp) #[(.int .i64 ax), (.int .i64 ay), (.int .i64 (mx - ax)), (.int .i64 ah), (.int .i64 (mx + mw)), (.int .i64 ay), (.int .i64 (ax + aw - mx - mw)), (.int .i64 ah), (.int .i64 mx), (.int .i64 ay), (.int .i64 mw), (.int .i64 (my - ay)), (.int .i64 mx), (.int .i64 (my + mh)), (.int .i64 mw), (.int .i64 (ay + ah - my - mh))] ps (by rw [hps'.out]; rfl) (by omega)
        rw [hpl] at hx
        have hR : RSl _ (w3.heap.size + 1) 0 4 4 4 (bxF ps) := (hx.form1 (by simp)).rsl hpl (by omega)
        clear hx
        have hB0 : Below w.heap.size w ((w3.alloc (.cells #[(.int .i64 mx), (.int .i64 my), (.int .i64 mw), (.int .i64 mh)] 24)).alloc (.cells #[(.int .i64 ax), (.int .i64 ay), (.int .i64 (mx - ax)), (.int .i64 ah), (.int .i64 (mx + mw)), (.int .i64 ay), (.int .i64 (ax + aw - mx - mw)), (.int .i64 ah), (.int .i64 mx), (.int .i64 ay), (.int .i64 mw), (.int .i64 (my - ay)), (.int .i64 mx), (.int .i64 (my + mh)), (.int .i64 mw), (.int .i64 (ay + ah - my - mh))] 24)) := (by repeat' (first | with_reducible exact Below.refl _ _ | with_reducible refine Below.alloc ?_ (by first | omega | (simp; done) | (simp; omega)) _ | with_reducible refine Below.drew ?_ | with_reducible refine below_drewN ?_ _ | with_reducible refine Below.setCell ?_ (by first | omega | (simp; done) | (simp; omega)) _ | with_reducible refine Below.grown ?_ (by assumption) (by first | omega | (simp; done) | (simp; omega)) (by intro k hk; cases hk; omega) | with_reducible refine Below.trans ?_ (Below.mono (by assumption) (by first | omega | (simp; done) | (simp; omega)))))
        have hsz : ((w3.alloc (.cells #[(.int .i64 mx), (.int .i64 my), (.int .i64 mw), (.int .i64 mh)] 24)).alloc (.cells #[(.int .i64 ax), (.int .i64 ay), (.int .i64 (mx - ax)), (.int .i64 ah), (.int .i64 (mx + mw)), (.int .i64 ay), (.int .i64 (ax + aw - mx - mw)), (.int .i64 ah), (.int .i64 mx), (.int .i64 ay), (.int .i64 mw), (.int .i64 (my - ay)), (.int .i64 mx), (.int .i64 (my + mh)), (.int .i64 mw), (.int .i64 (ay + ah - my - mh))] 24)).heap.size = w3.heap.size + 2 := by simp
        generalize (w3.alloc (.cells #[(.int .i64 mx), (.int .i64 my), (.int .i64 mw), (.int .i64 mh)] 24)).alloc (.cells #[(.int .i64 ax), (.int .i64 ay), (.int .i64 (mx - ax)), (.int .i64 ah), (.int .i64 (mx + mw)), (.int .i64 ay), (.int .i64 (ax + aw - mx - mw)), (.int .i64 ah), (.int .i64 mx), (.int .i64 ay), (.int .i64 mw), (.int .i64 (my - ay)), (.int .i64 mx), (.int .i64 (my + mh)), (.int .i64 mw), (.int .i64 (ay + ah - my - mh))] 24) = W4 at hR hB0 hsz ⊢
        go_loopw [98, 8] (fun i v wr => ∃ k : Nat, k ≤ 4 ∧ i = .int .i64 k ∧ OwnX wr W4.heap.size v (flP ps k) ∧ Below W4.heap.size W4 wr) (fun i _ _ => 4 - (intOf i).toNat)
        case atStart => exact ⟨0, Nat.zero_le _, rfl, by rw [flP_zero]; exact ownX_nil _ _, Below.refl _ _⟩
        case round =>
          obtain ⟨k, hk, rfl, ho, hbr⟩ := hrel
          have hzr := hbr.size
          by_cases hlt : k < 4
          · have i1 : (0 : Int) ≤ (k : Int) := by omega
            have i2 : (k : Int) < (4 : Int) := by omega
            obtain ⟨c0, c1, c2, c3⟩ := box_cells (hR.below hbr) hlt
            have hfl := flP_len ps k
            rw [hpl] at hfl
            obtain ⟨x0, hx0⟩ : ∃ x, x = (Go.Proofs.Ytimfabpigpcjhaa.bx ps k).x := ⟨_, rfl⟩
            rw [← hx0] at c0
            obtain ⟨x1, hx1⟩ : ∃ x, x = (Go.Proofs.Ytimfabpigpcjhaa.bx ps k).y := ⟨_, rfl⟩
            rw [← hx1] at c1
            obtain ⟨x2, hx2⟩ : ∃ x, x = (Go.Proofs.Ytimfabpigpcjhaa.bx ps k).w := ⟨_, rfl⟩
            rw [← hx2] at c2
            obtain ⟨x3, hx3⟩ : ∃ x, x = (Go.Proofs.Ytimfabpigpcjhaa.bx ps k).h := ⟨_, rfl⟩
            rw [← hx3] at c3
            simp only [Nat.zero_add] at c0 c1 c2 c3
            have ey := fun h1 h2 => flP_y (bs := ps) (k := k) (by omega) h1 h2
            have en := fun h => flP_n (bs := ps) (k := k) (by omega) h
            have eb : Go.Proofs.Ytimfabpigpcjhaa.bx ps k = ⟨x0, x1, x2, x3⟩ := by rw [hx0, hx1, hx2, hx3]
            rw [eb] at ey en
            have ey := mkhid ey
            have en := mkhid en
            obtain ⟨v, hv⟩ : ∃ v, v = flP ps k := ⟨_, rfl⟩
            rw [← hv] at ho hfl ey en
            clear hx0 hx1 hx2 hx3 eb hv hps'
            have hne1 : ¬ (w3.heap.size + 1 = wr.heap.size) := by omega
            by_cases g1 : 0 < x2
            · have e1 : decide (0 < x2) = true := decide_eq_true g1
              by_cases g2 : 0 < x3
              · have e2 : decide (0 < x3) = true := decide_eq_true g2
                have e3 := mkhid (ey.out g1 g2)
                go_wp2_with (at_builtin; refine wpList_append_own _ rfl _ _ 40 rfl W4.heap.size 24 i0 (.agg #[.int .i64 0, .int .i64 0, .int .i64 0, .int .i64 0]) 4 32 Try.underlying40 hi iz0 iz1 iz2 rfl (by decide) _ _ _ rfl (World.ownsRow.alloc (World.ownsRow.alloc (show World.ownsRow _ _ _ _ _ _ _ from ho) _) _) ⟨_, 0, none⟩ 1 1 [(.int .i64 x0), (.int .i64 x1), (.int .i64 x2), (.int .i64 x3)] rfl rfl (four_at _ _ _ _ _ _ _ (by first | rfl | simp)) (by intro u hu; simp at hu; rcases hu with rfl | rfl | rfl | rfl <;> rfl) (by first | (unfold maxLen; omega) | (simp [maxLen])) (by first | omega | simp) (by first | omega | (simp; done) | (simp; omega)) ?_; intro v1 w5 hown1 hgrow1 hnil1)
                go_roundw
                case rel =>
                  have hb5 : Below W4.heap.size W4 w5 := Below.grown ((hbr.alloc (by omega) _).alloc (by simp; omega) _) hgrow1 (by simp; omega) (fun k hk => (World.ownsRow.lt ho k hk).1)
                  exact ⟨k + 1, by omega, by go_num, e3.out ▸ OwnX.app (bs := v) (b := ⟨x0, x1, x2, x3⟩) rfl hown1, hb5⟩
                case measure => first | (simp [intOf]; done) | (simp [intOf]; omega)
              · have e2 : decide (0 < x3) = false := decide_eq_false g2
                have e3 := mkhid (en.out (fun h => g2 h.2))
                go_wp2_with fail
                go_roundw
                case rel => exact ⟨k + 1, by omega, by go_num, e3.out ▸ World.ownsRow.alloc (show World.ownsRow _ _ _ _ _ _ _ from ho) _, hbr.alloc (by omega) _⟩
                case measure => first | (simp [intOf]; done) | (simp [intOf]; omega)
            · have e1 : decide (0 < x2) = false := decide_eq_false g1
              have e3 := mkhid (en.out (fun h => g1 h.1))
              go_wp2_with fail
              go_roundw
              case rel => exact ⟨k + 1, by omega, by go_num, e3.out ▸ World.ownsRow.alloc (show World.ownsRow _ _ _ _ _ _ _ from ho) _, hbr.alloc (by omega) _⟩
              case measure => first | (simp [intOf]; done) | (simp [intOf]; omega)
          · have hk4 : k = 4 := by omega
            subst hk4
            go_wp2
            go_ret
            refine ⟨_, rfl, ?_, hB0.trans (hbr.mono hB0.size)⟩
            rw [hl.out]
            exact ho.le hB0.size
end Go.Proofs.Ytimfabpigpcjhaa
