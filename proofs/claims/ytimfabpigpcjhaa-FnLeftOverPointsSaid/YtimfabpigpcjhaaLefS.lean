/- LeftOver of spec; no statement is proved here. -/
import Derived.Test.YtimfabpigpcjhaaPlLef
import Derived.Test.YtimfabpigpcjhaaMeet
import Derived.Maps.AppendAt
import Derived.Deep.CutRange
namespace Go.Proofs.Ytimfabpigpcjhaa
open Go.ChangeShapes Go.WideShapes Go.ChangeAt Go.RowKit
set_option linter.unusedVariables false
set_option linter.unusedSimpArgs false

theorem ownX_lit (w : World) (B : Nat) (hB : B ≤ w.heap.size) (cs : Array Value) (bs : List Bx) (h : cs.toList = flatB bs) (hl : bs.length ≤ 1048576) : OwnX (w.alloc (.cells cs 24)) B (.slice (some ⟨w.heap.size, 0, none⟩) bs.length bs.length) bs := by
  have hs : cs.size = bs.length * 4 := by rw [← Array.length_toList, h, flatB_length]
  have := World.ownsRow_lit (size := 4) (e := 24) w cs bs.length hB (by unfold maxLen; omega) hs
  unfold OwnX
  rw [← h]
  exact this
theorem four_new (w : World) (E : TypeId) (a b c d : Value) : ∀ (j : Nat) (u : Value), ([a, b, c, d] : List Value)[j]? = some u → (w.alloc (.cells #[a, b, c, d] E)).cell? (Addr.add ⟨w.heap.size, 0, none⟩ j) = some u := by
  intro j u h
  match j, h with
  | 0, h => simp at h; subst h; go_simp
  | 1, h => simp at h; subst h; go_simp
  | 2, h => simp at h; subst h; go_simp
  | 3, h => simp at h; subst h; go_simp
  | j + 4, h => simp at h
theorem four_at (w : World) (E : TypeId) (B : Nat) (a b c d : Value) (h : w.heap.size = B) : ∀ (j : Nat) (u : Value), ([a, b, c, d] : List Value)[j]? = some u → (w.alloc (.cells #[a, b, c, d] E)).cell? (Addr.add ⟨B, 0, none⟩ j) = some u := by subst h; exact four_new w E a b c d
theorem OwnX.app {w : World} {B n : Nat} {v : Value} {bs : List Bx} {b : Bx} (hn : bs.length = n) (h : w.ownsRow B 24 4 v (n + 1) (flatB bs ++ [(.int .i64 b.x), (.int .i64 b.y), (.int .i64 b.w), (.int .i64 b.h)])) : OwnX w B v (bs ++ [b]) := by
  unfold OwnX
  rw [flatB_append, flatB_one, List.length_append, hn]
  exact h
/-- a call returns new memory that reads as the boxes -/
def FrL (bs : List Bx) (w : World) : Ending → World → Prop := fun e w' => ∃ v, e = .returned v ∧ OwnX w' w.heap.size v bs ∧ Below w.heap.size w w'
theorem OwnX.form1 {w : World} {B g g' : Nat} {bs : List Bx} {n : Nat} (h : OwnX w B (.slice (some ⟨g, 0, none⟩) n n) bs) (e : g = g') : OwnX w B (.slice (some ⟨g', 0, none⟩) n n) bs := e ▸ h
/-- the list as it grows -/
@[irreducible] def lp1 (a m : Bx) : List Bx := if a.x < m.x then [q1 a m] else []
@[irreducible] def lp2 (a m : Bx) : List Bx := lp1 a m ++ (if m.x + m.w < a.x + a.w then [q2 a m] else [])
@[irreducible] def lp3 (a m : Bx) : List Bx := lp2 a m ++ (if a.y < m.y then [q3 a m] else [])
theorem lp4 (a m : Bx) : leftP a m = lp3 a m ++ (if m.y + m.h < a.y + a.h then [q4 a m] else []) := by unfold lp3 lp2 lp1 leftP; rfl
@[irreducible] def lpA (a m : Bx) : List Bx := leftP a m
theorem lp1_y {a m : Bx} {bs : List Bx} (h : a.x < m.x) (e : bs = []) : bs ++ [q1 a m] = lp1 a m := by subst e; unfold lp1; rw [if_pos h]; rfl
theorem lp1_n {a m : Bx} {bs : List Bx} (h : ¬ (a.x < m.x)) (e : bs = []) : bs = lp1 a m := by subst e; unfold lp1; rw [if_neg h]
theorem lp2_y {a m : Bx} {bs : List Bx} (h : m.x + m.w < a.x + a.w) (e : bs = lp1 a m) : bs ++ [q2 a m] = lp2 a m := by subst e; unfold lp2; rw [if_pos h]
theorem lp2_n {a m : Bx} {bs : List Bx} (h : ¬ (m.x + m.w < a.x + a.w)) (e : bs = lp1 a m) : bs = lp2 a m := by subst e; unfold lp2; rw [if_neg h]; simp
theorem lp3_y {a m : Bx} {bs : List Bx} (h : a.y < m.y) (e : bs = lp2 a m) : bs ++ [q3 a m] = lp3 a m := by subst e; unfold lp3; rw [if_pos h]
theorem lp3_n {a m : Bx} {bs : List Bx} (h : ¬ (a.y < m.y)) (e : bs = lp2 a m) : bs = lp3 a m := by subst e; unfold lp3; rw [if_neg h]; simp
theorem lpA_y {a m : Bx} {bs : List Bx} (h : m.y + m.h < a.y + a.h) (e : bs = lp3 a m) : bs ++ [q4 a m] = lpA a m := by subst e; unfold lpA; rw [lp4]; rw [if_pos h]
theorem lpA_n {a m : Bx} {bs : List Bx} (h : ¬ (m.y + m.h < a.y + a.h)) (e : bs = lp3 a m) : bs = lpA a m := by subst e; unfold lpA; rw [lp4]; rw [if_neg h]; simp
structure SameX (bs cs : List Bx) : Prop where
  out : bs = cs
/-- the box a at the walk's first block and the meeting box at gm; below W nothing has turned -/
structure AtM (W wx : World) (gm : Nat) (ax ay aw ah mx my mw mh : Int) : Prop where
  lo : W.heap.size < gm
  sm : gm < wx.heap.size
  a0 : wx.cell? ⟨W.heap.size, 0, none⟩ = some (.int .i64 ax)
  a1 : wx.cell? ⟨W.heap.size, 1, none⟩ = some (.int .i64 ay)
  a2 : wx.cell? ⟨W.heap.size, 2, none⟩ = some (.int .i64 aw)
  a3 : wx.cell? ⟨W.heap.size, 3, none⟩ = some (.int .i64 ah)
  m0 : wx.cell? ⟨gm, 0, none⟩ = some (.int .i64 mx)
  m1 : wx.cell? ⟨gm, 1, none⟩ = some (.int .i64 my)
  m2 : wx.cell? ⟨gm, 2, none⟩ = some (.int .i64 mw)
  m3 : wx.cell? ⟨gm, 3, none⟩ = some (.int .i64 mh)
  bl : Below W.heap.size W wx
theorem AtM.app {W wx wy : World} {gm : Nat} {ax ay aw ah mx my mw mh : Int} {v : Value} {bs : List Bx} {o : Obj} (h : AtM W wx gm ax ay aw ah mx my mw mh) (ho : OwnX wx (gm + 1) v bs) (hg : (wx.alloc o).grownBy wy v.ownBlock) : AtM W wy gm ax ay aw ah mx my mw mh := by
  have hsm := h.sm
  have hlo := h.lo
  have hb : Below (gm + 1) wx wy := Below.grown (Below.alloc (Below.refl _ _) (by omega) _) hg (by simp; omega) (fun k hk => (World.ownsRow.lt ho k hk).1)
  have C : ∀ b j, b < gm + 1 → wy.cell? ⟨b, j, none⟩ = wx.cell? ⟨b, j, none⟩ := fun b j hb' => hb.cell (p := ⟨b, j, none⟩) hb'
  exact ⟨hlo, Nat.lt_of_lt_of_le hsm hb.size, (C _ _ (by omega)).trans h.a0, (C _ _ (by omega)).trans h.a1, (C _ _ (by omega)).trans h.a2, (C _ _ (by omega)).trans h.a3,
    (C _ _ (by omega)).trans h.m0, (C _ _ (by omega)).trans h.m1, (C _ _ (by omega)).trans h.m2, (C _ _ (by omega)).trans h.m3, h.bl.trans (hb.mono (by omega))⟩
theorem OwnX.le {w : World} {B B' : Nat} {v : Value} {bs : List Bx} (h : OwnX w B v bs) (hb : B' ≤ B) : OwnX w B' v bs := Joins.ownsRow_le h hb
set_option maxHeartbeats 2000000 in
theorem spec_leftOver_c (ax ay aw ah bx by' bw bh : Int) (w : World) (ha : vBox ax ay aw ah = true) (hb : vBox bx by' bw bh = true) : Calls Try.prog 52 #[(.agg #[.int .i64 ax, .int .i64 ay, .int .i64 aw, .int .i64 ah]), (.agg #[.int .i64 bx, .int .i64 by', .int .i64 bw, .int .i64 bh])] w (FrL (leftR ⟨ax, ay, aw, ah⟩ ⟨bx, by', bw, bh⟩) w) := by
  obtain ⟨i0, hi, iz0, iz1, iz2⟩ := info_parts infoBox
  have CM := fun w' => spec_meetOf_c ax ay aw ah bx by' bw bh w' ha hb
  obtain ⟨a1, a2, a3, a4, a5, a6, a7, a8⟩ := vBox_bd ha
  obtain ⟨b1, b2, b3, b4, b5, b6, b7, b8⟩ := vBox_bd hb
  cases hm : meets ax ay aw ah bx by' bw bh
  · have hl : Hid (leftR ⟨ax, ay, aw, ah⟩ ⟨bx, by', bw, bh⟩ = [⟨ax, ay, aw, ah⟩]) := leftR_a ha hb hm
    have hv : meetV ax ay aw ah bx by' bw bh = .tuple #[(.agg #[.int .i64 0, .int .i64 0, .int .i64 0, .int .i64 0]), .bool false] := by unfold meetV; rw [hm]
    rw [hv] at CM
    clear hv hm ha hb
    go_enter Try.func52, Try.ntmps52
    go_wp2_with fail
    go_at_call 41
    refine (CM _).mono ?_
    rintro e w1 ⟨rfl, hb1⟩
    obtain ⟨hc1, hf1, -, hz1⟩ := bcell hb1
    (try simp at hz1)
    (try (have y1 : w.heap.size ≤ w1.heap.size := by omega))
    (try (have z1_0_0 : w.heap.size < w1.heap.size := by omega))
    (try (have z1_0_1 : w.heap.size + 1 < w1.heap.size := by omega))
    (try (have z1_0_2 : w.heap.size + 1 + 1 < w1.heap.size := by omega))
    (try (have z1_0_3 : w.heap.size + 1 + 1 + 1 < w1.heap.size := by omega))
    go_wp2_with fail
    go_ret
    refine ⟨_, rfl, ?_, (by repeat' (first | with_reducible exact Below.refl _ _ | with_reducible refine Below.alloc ?_ (by first | omega | (simp; done) | (simp; omega)) _ | with_reducible refine Below.drew ?_ | with_reducible refine below_drewN ?_ _ | with_reducible refine Below.setCell ?_ (by first | omega | (simp; done) | (simp; omega)) _ | with_reducible refine Below.grown ?_ (by assumption) (by first | omega | (simp; done) | (simp; omega)) (by intro k hk; cases hk; omega) | with_reducible refine Below.trans ?_ (Below.mono (by assumption) (by first | omega | (simp; done) | (simp; omega)))))⟩
    rw [hl.out]
    have hx := ownX_lit (w1.alloc (.cells #[(.int .i64 0), (.int .i64 0), (.int .i64 0), (.int .i64 0)] 24)) w.heap.size (by simp; omega) #[(.int .i64 ax), (.int .i64 ay), (.int .i64 aw), (.int .i64 ah)] [⟨ax, ay, aw, ah⟩] rfl (by simp)
    exact hx.form1 (by simp)
  · obtain ⟨mx, hmx⟩ : ∃ m, m = mX ax bx := ⟨_, rfl⟩
    obtain ⟨my, hmy⟩ : ∃ m, m = mX ay by' := ⟨_, rfl⟩
    obtain ⟨mw, hmw⟩ : ∃ m, m = mW ax aw bx bw := ⟨_, rfl⟩
    obtain ⟨mh, hmh⟩ : ∃ m, m = mW ay ah by' bh := ⟨_, rfl⟩
    have hl : Hid (leftR ⟨ax, ay, aw, ah⟩ ⟨bx, by', bw, bh⟩ = leftP ⟨ax, ay, aw, ah⟩ ⟨mx, my, mw, mh⟩) := by
      show _ = _
      rw [hmx, hmy, hmw, hmh]; exact leftR_p ha hb hm
    have hv : meetV ax ay aw ah bx by' bw bh = .tuple #[(.agg #[.int .i64 mx, .int .i64 my, .int .i64 mw, .int .i64 mh]), .bool true] := by unfold meetV; rw [hm, hmx, hmy, hmw, hmh]
    rw [hv] at CM
    unfold meets at hm
    obtain ⟨m1, m2⟩ := of_decide_eq_true hm
    rw [← hmw] at m1
    rw [← hmh] at m2
    rw [mX_eq] at hmx hmy
    rw [mW_eq] at hmw hmh
    have m3 : 0 ≤ mx ∧ mx ≤ 200 ∧ mw ≤ 200 ∧ 0 ≤ my ∧ my ≤ 200 ∧ mh ≤ 200 := by omega
    obtain ⟨m3, m4, m5, m6, m7, m8⟩ := m3
    clear hv hm ha hb hmx hmy hmw hmh
    go_enter Try.func52, Try.ntmps52
    go_wp2_with fail
    go_at_call 41
    refine (CM _).mono ?_
    rintro e w1 ⟨rfl, hb1⟩
    obtain ⟨hc1, hf1, -, hz1⟩ := bcell hb1
    (try simp at hz1)
    (try (have y1 : w.heap.size ≤ w1.heap.size := by omega))
    (try (have z1_0_0 : w.heap.size < w1.heap.size := by omega))
    (try (have z1_0_1 : w.heap.size + 1 < w1.heap.size := by omega))
    (try (have z1_0_2 : w.heap.size + 1 + 1 < w1.heap.size := by omega))
    (try (have z1_0_3 : w.heap.size + 1 + 1 + 1 < w1.heap.size := by omega))
    go_upto_if 23 with fail
    have hA : AtM w ((w1.alloc (.cells #[(.int .i64 mx), (.int .i64 my), (.int .i64 mw), (.int .i64 mh)] 24)).alloc (.cells #[] 24)) w1.heap.size ax ay aw ah mx my mw mh := ⟨by omega, (by simp; omega), by go_simp, by go_simp, by go_simp, by go_simp, by go_simp, by go_simp, by go_simp, by go_simp, (by repeat' (first | with_reducible exact Below.refl _ _ | with_reducible refine Below.alloc ?_ (by first | omega | (simp; done) | (simp; omega)) _ | with_reducible refine Below.drew ?_ | with_reducible refine below_drewN ?_ _ | with_reducible refine Below.setCell ?_ (by first | omega | (simp; done) | (simp; omega)) _ | with_reducible refine Below.grown ?_ (by assumption) (by first | omega | (simp; done) | (simp; omega)) (by intro k hk; cases hk; omega) | with_reducible refine Below.trans ?_ (Below.mono (by assumption) (by first | omega | (simp; done) | (simp; omega)))))⟩
    have ho : OwnX ((w1.alloc (.cells #[(.int .i64 mx), (.int .i64 my), (.int .i64 mw), (.int .i64 mh)] 24)).alloc (.cells #[] 24)) (w1.heap.size + 1) (.slice (some ⟨w1.heap.size + 1, 0, none⟩) 0 0) [] := by have := ownX_lit (w1.alloc (.cells #[(.int .i64 mx), (.int .i64 my), (.int .i64 mw), (.int .i64 mh)] 24)) (w1.heap.size + 1) (by simp) #[] [] rfl (by simp); simpa using this
    have hbs : SameX ([] : List Bx) [] := ⟨rfl⟩
    have hln : ([] : List Bx).length ≤ 0 := by simp
    go_cut [7] from 23 to 23 (fun v wx => AtM w wx w1.heap.size ax ay aw ah mx my mw mh ∧ ∃ bs, SameX bs (lp1 ⟨ax, ay, aw, ah⟩ ⟨mx, my, mw, mh⟩) ∧ bs.length ≤ 1 ∧ OwnX wx (w1.heap.size + 1) v bs)
    case first =>
      by_cases k : ax < mx
      · have hk := mkhid k
        have e : decide (ax < mx) = true := decide_eq_true k
        have s0 : IntKind.i64.wrap (mx - ax) = mx - ax := IntWalk.i64_in _ (by omega)
        go_wp2_with (at_builtin; refine wpList_append_own _ rfl _ _ 40 rfl (w1.heap.size + 1) 24 i0 (.agg #[.int .i64 0, .int .i64 0, .int .i64 0, .int .i64 0]) 4 32 Try.underlying40 hi iz0 iz1 iz2 rfl (by decide) _ _ _ rfl (World.ownsRow.alloc (show World.ownsRow _ _ _ _ _ _ _ from ho) _) ⟨_, 0, none⟩ 1 1 [(.int .i64 ax), (.int .i64 ay), (.int .i64 (mx - ax)), (.int .i64 ah)] rfl rfl (four_at _ _ _ _ _ _ _ (by first | rfl | simp)) (by intro u hu; simp at hu; rcases hu with rfl | rfl | rfl | rfl <;> rfl) (by first | (unfold maxLen; omega) | (simp [maxLen])) (by first | omega | simp) (by first | omega | (simp; done) | (simp; omega)) ?_; intro v1 w2 hown1 hgrow1 hnil1)
        go_meet
        case rel => exact ⟨hA.app ho hgrow1, _, ⟨lp1_y (show _ from hk.out) hbs.out⟩, (by simp), OwnX.app (bs := []) (b := q1 ⟨ax, ay, aw, ah⟩ ⟨mx, my, mw, mh⟩) rfl hown1⟩
      · have hk := mkhid k
        have e : decide (ax < mx) = false := decide_eq_false k
        go_wp2_with fail
        go_meet
        case rel => exact ⟨hA, _, ⟨lp1_n (by have := hk.out; first | exact this | (simp only; omega)) hbs.out⟩, (by first | omega | simp), ho⟩
    case rest =>
      obtain ⟨hA, bs, hbs, hln, ho⟩ := hcut
      have hA' := hA
      obtain ⟨h1, h2, c0, c1, c2, c3, g0, g1, g2, g3, hbl⟩ := hA'
      have hne1 : ¬ (w.heap.size = wc.heap.size) := by omega
      have hne2 : ¬ (w1.heap.size = wc.heap.size) := by omega
      have t10 : IntKind.i64.wrap (mx + mw) = mx + mw := IntWalk.i64_in _ (by omega)
      have t11 : IntKind.i64.wrap (ax + aw) = ax + aw := IntWalk.i64_in _ (by omega)
      go_upto_if 49 with fail
      go_cut [7] from 49 to 49 (fun v wx => AtM w wx w1.heap.size ax ay aw ah mx my mw mh ∧ ∃ bs, SameX bs (lp2 ⟨ax, ay, aw, ah⟩ ⟨mx, my, mw, mh⟩) ∧ bs.length ≤ 2 ∧ OwnX wx (w1.heap.size + 1) v bs)
      case first =>
        by_cases k : mx + mw < ax + aw
        · have hk := mkhid k
          have e : decide (mx + mw < ax + aw) = true := decide_eq_true k
          have s0 : IntKind.i64.wrap (mx + mw) = mx + mw := IntWalk.i64_in _ (by omega)
          have s1 : IntKind.i64.wrap (ax + aw) = ax + aw := IntWalk.i64_in _ (by omega)
          have s2 : IntKind.i64.wrap (ax + aw - mx) = ax + aw - mx := IntWalk.i64_in _ (by omega)
          have s3 : IntKind.i64.wrap (ax + aw - mx - mw) = ax + aw - mx - mw := IntWalk.i64_in _ (by omega)
          go_wp2_with (at_builtin; refine wpList_append_own _ rfl _ _ 40 rfl (w1.heap.size + 1) 24 i0 (.agg #[.int .i64 0, .int .i64 0, .int .i64 0, .int .i64 0]) 4 32 Try.underlying40 hi iz0 iz1 iz2 rfl (by decide) _ _ _ rfl (World.ownsRow.alloc (show World.ownsRow _ _ _ _ _ _ _ from ho) _) ⟨_, 0, none⟩ 1 1 [(.int .i64 (mx + mw)), (.int .i64 ay), (.int .i64 (ax + aw - mx - mw)), (.int .i64 ah)] rfl rfl (four_at _ _ _ _ _ _ _ (by first | rfl | simp)) (by intro u hu; simp at hu; rcases hu with rfl | rfl | rfl | rfl <;> rfl) (by first | (unfold maxLen; omega) | (simp [maxLen])) (by first | omega | simp) (by first | omega | (simp; done) | (simp; omega)) ?_; intro v1 w2 hown1 hgrow1 hnil1)
          go_meet
          case rel => exact ⟨hA.app ho hgrow1, _, ⟨lp2_y (show _ from hk.out) hbs.out⟩, (by rw [List.length_append]; simp; omega), OwnX.app (bs := _) (b := q2 ⟨ax, ay, aw, ah⟩ ⟨mx, my, mw, mh⟩) rfl hown1⟩
        · have hk := mkhid k
          have e : decide (mx + mw < ax + aw) = false := decide_eq_false k
          go_wp2_with fail
          go_meet
          case rel => exact ⟨hA, _, ⟨lp2_n (by have := hk.out; first | exact this | (simp only; omega)) hbs.out⟩, (by first | omega | simp), ho⟩
      case rest =>
        obtain ⟨hA, bs, hbs, hln, ho⟩ := hcut
        have hA' := hA
        obtain ⟨h1, h2, c0, c1, c2, c3, g0, g1, g2, g3, hbl⟩ := hA'
        have hne1 : ¬ (w.heap.size = wc.heap.size) := by omega
        have hne2 : ¬ (w1.heap.size = wc.heap.size) := by omega
        go_upto_if 78 with fail
        go_cut [7] from 78 to 78 (fun v wx => AtM w wx w1.heap.size ax ay aw ah mx my mw mh ∧ ∃ bs, SameX bs (lp3 ⟨ax, ay, aw, ah⟩ ⟨mx, my, mw, mh⟩) ∧ bs.length ≤ 3 ∧ OwnX wx (w1.heap.size + 1) v bs)
        case first =>
          by_cases k : ay < my
          · have hk := mkhid k
            have e : decide (ay < my) = true := decide_eq_true k
            have s0 : IntKind.i64.wrap (my - ay) = my - ay := IntWalk.i64_in _ (by omega)
            go_wp2_with (at_builtin; refine wpList_append_own _ rfl _ _ 40 rfl (w1.heap.size + 1) 24 i0 (.agg #[.int .i64 0, .int .i64 0, .int .i64 0, .int .i64 0]) 4 32 Try.underlying40 hi iz0 iz1 iz2 rfl (by decide) _ _ _ rfl (World.ownsRow.alloc (show World.ownsRow _ _ _ _ _ _ _ from ho) _) ⟨_, 0, none⟩ 1 1 [(.int .i64 mx), (.int .i64 ay), (.int .i64 mw), (.int .i64 (my - ay))] rfl rfl (four_at _ _ _ _ _ _ _ (by first | rfl | simp)) (by intro u hu; simp at hu; rcases hu with rfl | rfl | rfl | rfl <;> rfl) (by first | (unfold maxLen; omega) | (simp [maxLen])) (by first | omega | simp) (by first | omega | (simp; done) | (simp; omega)) ?_; intro v1 w2 hown1 hgrow1 hnil1)
            go_meet
            case rel => exact ⟨hA.app ho hgrow1, _, ⟨lp3_y (show _ from hk.out) hbs.out⟩, (by rw [List.length_append]; simp; omega), OwnX.app (bs := _) (b := q3 ⟨ax, ay, aw, ah⟩ ⟨mx, my, mw, mh⟩) rfl hown1⟩
          · have hk := mkhid k
            have e : decide (ay < my) = false := decide_eq_false k
            go_wp2_with fail
            go_meet
            case rel => exact ⟨hA, _, ⟨lp3_n (by have := hk.out; first | exact this | (simp only; omega)) hbs.out⟩, (by first | omega | simp), ho⟩
        case rest =>
          obtain ⟨hA, bs, hbs, hln, ho⟩ := hcut
          have hA' := hA
          obtain ⟨h1, h2, c0, c1, c2, c3, g0, g1, g2, g3, hbl⟩ := hA'
          have hne1 : ¬ (w.heap.size = wc.heap.size) := by omega
          have hne2 : ¬ (w1.heap.size = wc.heap.size) := by omega
          have t30 : IntKind.i64.wrap (my + mh) = my + mh := IntWalk.i64_in _ (by omega)
          have t31 : IntKind.i64.wrap (ay + ah) = ay + ah := IntWalk.i64_in _ (by omega)
          go_upto_if 104 with fail
          go_cut [7] from 104 to 104 (fun v wx => AtM w wx w1.heap.size ax ay aw ah mx my mw mh ∧ ∃ bs, SameX bs (lpA ⟨ax, ay, aw, ah⟩ ⟨mx, my, mw, mh⟩) ∧ bs.length ≤ 4 ∧ OwnX wx (w1.heap.size + 1) v bs)
          case first =>
            by_cases k : my + mh < ay + ah
            · have hk := mkhid k
              have e : decide (my + mh < ay + ah) = true := decide_eq_true k
              have s0 : IntKind.i64.wrap (my + mh) = my + mh := IntWalk.i64_in _ (by omega)
              have s1 : IntKind.i64.wrap (ay + ah) = ay + ah := IntWalk.i64_in _ (by omega)
              have s2 : IntKind.i64.wrap (ay + ah - my) = ay + ah - my := IntWalk.i64_in _ (by omega)
              have s3 : IntKind.i64.wrap (ay + ah - my - mh) = ay + ah - my - mh := IntWalk.i64_in _ (by omega)
              go_wp2_with (at_builtin; refine wpList_append_own _ rfl _ _ 40 rfl (w1.heap.size + 1) 24 i0 (.agg #[.int .i64 0, .int .i64 0, .int .i64 0, .int .i64 0]) 4 32 Try.underlying40 hi iz0 iz1 iz2 rfl (by decide) _ _ _ rfl (World.ownsRow.alloc (show World.ownsRow _ _ _ _ _ _ _ from ho) _) ⟨_, 0, none⟩ 1 1 [(.int .i64 mx), (.int .i64 (my + mh)), (.int .i64 mw), (.int .i64 (ay + ah - my - mh))] rfl rfl (four_at _ _ _ _ _ _ _ (by first | rfl | simp)) (by intro u hu; simp at hu; rcases hu with rfl | rfl | rfl | rfl <;> rfl) (by first | (unfold maxLen; omega) | (simp [maxLen])) (by first | omega | simp) (by first | omega | (simp; done) | (simp; omega)) ?_; intro v1 w2 hown1 hgrow1 hnil1)
              go_meet
              case rel => exact ⟨hA.app ho hgrow1, _, ⟨lpA_y (show _ from hk.out) hbs.out⟩, (by rw [List.length_append]; simp; omega), OwnX.app (bs := _) (b := q4 ⟨ax, ay, aw, ah⟩ ⟨mx, my, mw, mh⟩) rfl hown1⟩
            · have hk := mkhid k
              have e : decide (my + mh < ay + ah) = false := decide_eq_false k
              go_wp2_with fail
              go_meet
              case rel => exact ⟨hA, _, ⟨lpA_n (by have := hk.out; first | exact this | (simp only; omega)) hbs.out⟩, (by first | omega | simp), ho⟩
          case rest =>
            obtain ⟨hA, bs, hbs, hln, ho⟩ := hcut
            go_wp2_with fail
            go_ret
            refine ⟨_, rfl, ?_, hA.bl⟩
            rw [hl.out]
            have e := hbs.out
            unfold lpA at e
            rw [← e]
            exact ho.le (by omega)
end Go.Proofs.Ytimfabpigpcjhaa
