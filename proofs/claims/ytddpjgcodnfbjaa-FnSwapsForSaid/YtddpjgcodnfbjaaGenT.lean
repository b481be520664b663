/- What the generators of spec draw: turns; no statement is proved here. -/
import Derived.Test.YtddpjgcodnfbjaaDrawI
import Derived.Test.YtddpjgcodnfbjaaEq
namespace Go.Proofs.Ytddpjgcodnfbjaa
open Go.ChangeShapes Go.WideShapes Go.ChangeAt Go.RowKit
set_option linter.unusedVariables false
set_option linter.unusedSimpArgs false

theorem own_prefix {w : World} {B g n c k : Nat} {E : TypeId} {zs : List Int} (h : Own w B E (.slice (some ⟨g, 0, none⟩) n c) zs) (hk : k ≤ n) : Own w B E (.slice (some ⟨g, 0, none⟩) k c) (zs.take k) := by
  have hl := (Own.at h).1
  subst hl
  obtain ⟨h1, h2⟩ := h
  refine ⟨by simp, ?_⟩
  rcases h2 with ⟨e, _⟩ | ⟨g', cap, cur, e, a1, a2, a3, a4, a5, a6⟩
  · cases e
  · simp only [Value.slice.injEq, Option.some.injEq, Addr.mk.injEq, and_true, true_and] at e
    obtain ⟨rfl, rfl⟩ := e
    refine .inr ⟨g, c, cur, by simp [Nat.min_eq_left hk], a1, a2, by simp; omega, a4, a5, ?_⟩
    rw [List.length_take, Nat.min_eq_left hk, Nat.mul_one, List.map_take, ← a6, Nat.mul_one, List.take_take, Nat.min_eq_left hk]
theorem el_drop {zs : List Int} {k i : Nat} : el (zs.drop k) i = el zs (k + i) := by simp [el, List.getD]
theorem Sl.drop {w : World} {b off n cap : Nat} {zs : List Int} (h : Sl w b off n cap zs) {k : Nat} (hk : k ≤ n) : Sl w b (off + k) (n - k) (cap - k) (zs.drop k) := by
  refine ⟨by rw [List.length_drop, h.len], by have := h.small; omega, by have := h.cap1; omega, by have := h.cap2; omega, h.lt, fun i hi => ?_⟩
  rw [List.length_drop, h.len] at hi
  rw [el_drop, Nat.add_assoc]
  exact h.cell (by omega)
theorem own_row' {w : World} {B n : Nat} {E : TypeId} {v : Value} {zs : List Int} (h : Own w B E v zs) (hl : zs.length = n) : w.ownsRow B E 1 v n (zs.map (Value.int .i64)) := hl ▸ h
theorem gb_below {a w w' : World} {row : Option Nat} (h : a.grownBy w row) (hb : Below w.heap.size w w') : a.grownBy w' row :=
  gb_trans h ⟨hb.os, hb.tape, hb.output, hb.size, fun k hk _ => hb.block k hk⟩
theorem app_step' {w wq w1 : World} {B g m h n c : Nat} {zs : List Int} {v1 : Value} {x : Int} {o : Obj} (hr : Rdr wq B g m) (hH : g < w.heap.size) (hB : B ≤ w.heap.size)
    (ho : Own wq w.heap.size 3 (.slice (some ⟨h, 0, none⟩) n c) zs) (hgb : w.grownBy wq (some g))
    (h1 : w1.ownsRow w.heap.size 3 1 v1 (n + 1) (zs.map (Value.int .i64) ++ [.int .i64 x])) (h2 : (wq.alloc o).grownBy w1 (some h)) (hl : zs.length = n) :
    ∃ h' c', v1 = .slice (some ⟨h', 0, none⟩) (n + 1) c' ∧ Own w1 w.heap.size 3 (.slice (some ⟨h', 0, none⟩) (n + 1) c') (zs ++ [x]) ∧ Rdr w1 B g m ∧ w.grownBy w1 (some g) := app_step hr hH hB ho hgb h1 h2
/-- the same for an append of a list -/
theorem app_many {w wq w1 : World} {B g m h n q c : Nat} {ys rs : List Int} {v1 : Value} (hr : Rdr wq B g m) (hH : g < w.heap.size) (hB : B ≤ w.heap.size)
    (ho : Own wq w.heap.size 3 (.slice (some ⟨h, 0, none⟩) n c) ys) (hgb : w.grownBy wq (some g))
    (h1 : w1.ownsRow w.heap.size 3 1 v1 (n + q) (ys.map (Value.int .i64) ++ rs.map (Value.int .i64))) (h2 : wq.grownBy w1 (some h)) (hq : rs.length = q) (hn : 0 < n) (hl : ys.length = n) :
    ∃ h' c', v1 = .slice (some ⟨h', 0, none⟩) (n + q) c' ∧ Own w1 w.heap.size 3 (.slice (some ⟨h', 0, none⟩) (n + q) c') (ys ++ rs) ∧ Rdr w1 B g m ∧ w.grownBy w1 (some g) := by
  have hh := (Own.at ho).2.1
  have hlen : (ys ++ rs).length = n + q := by rw [List.length_append, hl, hq]
  have ha : Own w1 w.heap.size 3 v1 (ys ++ rs) := by unfold Own; rw [hlen, List.map_append]; exact h1
  obtain ⟨g1, c1, rfl⟩ := own_form ha hlen (by omega)
  refine ⟨g1, c1, rfl, ha, ?_, ?_⟩
  · exact hr.grown h2 (by intro e; injection e with e; omega) (fun r hr => by cases hr; omega)
  · exact gb_other hgb h2 hh
set_option maxRecDepth 100000 in
set_option maxHeartbeats 1000000 in
theorem someTurn_c {w : World} {B g m : Nat} (hr : Rdr w B g m) (hm : m ≤ 900000) :
    Calls Try.prog 92 #[.pointer (some ⟨g, 0, none⟩)] w (PkL 30 B g (m + 40) w) := by
  obtain ⟨j0, ji, jz0, jz1, jz2⟩ := info_parts Try.infoInt
  have hH := hr.lt
  have hB := hr.ge
  have hB0 : B ≤ w.heap.size := by omega
  have hr0 := hr
  have ho0 : Own (w.alloc (.cells #[] 3)) w.heap.size 3 (.slice (some ⟨w.heap.size, 0, none⟩) 0 0) [] := own_empty w w.heap.size (Nat.le_refl _)
  go_enter Try.func92, Try.ntmps92
  go_wp2_with fail
  go_at_call 58
  refine (one_c (zs := [6, 8, 4, 10, 2, 0, 14]) (show Rdr _ B g _ by repeat' (first | with_reducible exact hr0 | with_reducible apply Rdr.alloc | with_reducible apply Rdr.drew1 | with_reducible apply Rdr.drew | (apply Rdr.setO (ha := by first | omega | (simp; omega)) (hB := by first | omega | (simp; omega))))) (by omega) (by exact lit_at _ [6, 8, 4, 10, 2, 0, 14] 7 _ rfl (by omega) (by first | rfl | simp)) (by omega) (by first | omega | (simp; omega))).mono ?_
  rintro e w1 ⟨x1, rfl, p1, hr1, hg1⟩
  have q1 : 0 ≤ x1 ∧ x1 ≤ 14 := by simp at p1; omega
  clear p1
  obtain ⟨q1a, q1b⟩ := q1
  obtain ⟨hc1, hf1, hz1⟩ := gcell hg1 hH
  (try simp at hz1)
  (try (have ne1_0_0 : ¬ (w1.heap.size = w.heap.size) := by omega)); (try (have nf1_0_0 : ¬ (w.heap.size = w1.heap.size) := by omega))
  (try (have ne1_0_1 : ¬ (w1.heap.size = w.heap.size + 1) := by omega)); (try (have nf1_0_1 : ¬ (w.heap.size + 1 = w1.heap.size) := by omega))
  (try (have y1 : w.heap.size ≤ w1.heap.size := by omega))
  (try (have z1_0_0 : w.heap.size < w1.heap.size := by omega))
  (try (have z1_0_1 : w.heap.size + 1 < w1.heap.size := by omega))
  (try (have z1_0_2 : w.heap.size + 1 + 1 < w1.heap.size := by omega))
  go_wp2_with fail
  have ho1 := (ho0.below ((Below.refl _ _).alloc (Nat.le_refl _) _)).other hg1 (by omega)
  have hgb1 : w.grownBy w1 (some g) := (by repeat' (first | with_reducible exact World.grownBy.refl _ _ | with_reducible refine gb_alloc ?_ _ | with_reducible refine gb_set ?_ (by first | omega | (simp; omega)) _ | with_reducible refine gb_drewN ?_ _ | with_reducible refine gb_drew1 ?_ | with_reducible refine gb_trans ?_ (by assumption)))
  obtain ⟨x, rfl⟩ : ∃ x : Nat, x1 = x := ⟨x1.toNat, by omega⟩
  clear hc1 hf1
  go_loopw [3, 4] (fun o k wr => ∃ j n h c m' : Nat, ∃ zs, k = .int .i64 j ∧ o = .slice (some ⟨h, 0, none⟩) n c ∧ n + j ≤ 30 ∧ m' + j ≤ m + 35 ∧ Own wr w.heap.size 3 (.slice (some ⟨h, 0, none⟩) n c) zs ∧ Rdr wr B g m' ∧ w.grownBy wr (some g)) (fun _ k _ => (intOf k).toNat)
  case atStart => exact ⟨x, 0, w.heap.size, 0, m + 1, [], rfl, rfl, by omega, by omega, ho1, hr1, hgb1⟩
  case round =>
    obtain ⟨j, n, h, c, m', zs, rfl, rfl, hnj, hmj, ho, hr2, hgb⟩ := hrel
    clear ho0 ho1 hr1 hg1 hgb1
    have hr1 := hr2
    have hhw := (Own.at ho).2.1
    have hsz := hgb.size
    by_cases hj : 0 < j
    · obtain ⟨i, rfl⟩ : ∃ i, j = i + 1 := ⟨j - 1, by omega⟩
      have i1 : (0 : Int) < ((i + 1 : Nat) : Int) := by omega
      go_wp2_with fail
      go_at_call 87
      refine (pick_c (show Rdr _ B g _ by repeat' (first | with_reducible exact hr1 | with_reducible apply Rdr.alloc | with_reducible apply Rdr.drew1 | with_reducible apply Rdr.drew | (apply Rdr.setO (ha := by first | omega | (simp; omega)) (hB := by first | omega | (simp; omega))))) (by omega) _).mono ?_
      rintro e w2 ⟨x2, rfl, ⟨p2, q2⟩, hr2, hg2⟩
      replace q2 := q2 (by omega)
      obtain ⟨hc2, hf2, hz2⟩ := gcell hg2 hH
      (try simp at hz2)
      (try (have ne2_0_0 : ¬ (w2.heap.size = w.heap.size) := by omega)); (try (have nf2_0_0 : ¬ (w.heap.size = w2.heap.size) := by omega))
      (try (have ne2_0_1 : ¬ (w2.heap.size = w.heap.size + 1) := by omega)); (try (have nf2_0_1 : ¬ (w.heap.size + 1 = w2.heap.size) := by omega))
      (try (have ne2_1_0 : ¬ (w2.heap.size = w1.heap.size) := by omega)); (try (have nf2_1_0 : ¬ (w1.heap.size = w2.heap.size) := by omega))
      (try (have ne2_1_1 : ¬ (w2.heap.size = w1.heap.size + 1) := by omega)); (try (have nf2_1_1 : ¬ (w1.heap.size + 1 = w2.heap.size) := by omega))
      (try (have y2 : w.heap.size ≤ w2.heap.size := by omega))
      (try (have y2_1 : w1.heap.size ≤ w2.heap.size := by omega))
      (try (have z2_0_0 : w.heap.size < w2.heap.size := by omega))
      (try (have z2_0_1 : w.heap.size + 1 < w2.heap.size := by omega))
      (try (have z2_0_2 : w.heap.size + 1 + 1 < w2.heap.size := by omega))
      (try (have z2_1_0 : w1.heap.size < w2.heap.size := by omega))
      (try (have z2_1_1 : w1.heap.size + 1 < w2.heap.size := by omega))
      have ho2 := ho.other hg2 (by omega)
      have hgb2 : w.grownBy w2 (some g) := gb_trans hgb hg2
      clear hc2 hf2 ho hgb hg2
      obtain ⟨a, rfl⟩ : ∃ a : Nat, x2 = a := ⟨x2.toNat, by omega⟩
      have s2 := ho2.sm (by omega)
      have hnc := s2.cap1
      have hcm := s2.cap2
      unfold maxLen at hcm
      have han : a ≤ n := by omega
      have k1 : (0 : Int) ≤ (a : Int) := by omega
      have k2 : (a : Int) ≤ (n : Int) := by omega
      have k3 : (a : Int) ≤ (c : Int) := by omega
      have k4 : (n : Int) ≤ (c : Int) := by omega
      have hr2' : Rdr w2 B g (m' + 1) := by assumption
      have hh2 := s2.lt
      by_cases hca : a = c
      · subst hca
        have sd : Sl w2 h 0 0 0 (zs.drop a) := ⟨by rw [List.length_drop, s2.len]; omega, by omega, by omega, by unfold maxLen; omega, s2.lt, fun i hi => by rw [List.length_drop, s2.len] at hi; omega⟩
        go_wp2_with fail
        go_at_call 65
        refine (spec_copyInts_s sd).mono ?_
        rintro e w3 ⟨g6, c6, rfl, ho6, hb3⟩
        have hg6 := (Own.at ho6).2.1
        have hl6 : ((zs.drop a)).length = 0 := by rw [List.length_drop, s2.len]; omega
        rw [hl6] at ho6
        have s3 := ho6.sm (by omega)
        have hp := own_prefix (ho2.below hb3) han
        have hr3 := hr2'.below hb3
        have hgb3 := gb_below hgb2 hb3
        have hz3 := hgb3.size
        rw [hl6]
        clear ho6 hb3
        go_wp2_with (first | (at_builtin; (refine wpList_append_own_at _ rfl (.tmp 26) (.tmp 29) 23 rfl w.heap.size 3 j0 (.int .i64 0) 1 8 Try.underlying23 ji jz0 jz1 jz2 rfl (by decide) _ a _ rfl (World.ownsRow.alloc (own_row' hp (by rw [List.length_take, s2.len]; omega)) _) ⟨_, 0, none⟩ 1 1 [.int .i64 n] rfl rfl (cell_one_at _ _ _ _ (by first | rfl | simp)) (by intro u hu; simp at hu; subst hu; rfl) (by unfold maxLen; omega) (by omega) (by simp; omega) ?_; intro v1 w4 hown1 hgrow1 hnil1 hat1; obtain ⟨h4, c4, rfl, ha4, hr4, hgb4⟩ := app_step' hr3 hH hB0 hp hgb3 hown1 hgrow1 (by rw [List.length_take, s2.len]; omega); have hgr1 : World.grownBy _ w4 (some h) := hgrow1; have hgh : g6 ≠ h := (by omega); have s4 := ((s3.below ((Below.refl _ _).alloc (Nat.le_refl _) _)).grown hgr1 (by intro e; injection e with e; exact hgh e)); have hz4 := hgb4.size; clear hown1 hgrow1 hnil1 hat1)) | (at_builtin; (refine wpList_append_own_at _ rfl (.tmp 30) (.tmp 31) 23 rfl w.heap.size 3 j0 (.int .i64 0) 1 8 Try.underlying23 ji jz0 jz1 jz2 rfl (by decide) _ (a + 1) _ rfl (own_row' ha4 (by rw [List.length_append, List.length_take, s2.len]; simp; omega)) ⟨g6, 0, none⟩ 0 c6 ((zs.drop a).map (Value.int .i64)) rfl (by rw [List.length_map, s4.len] <;> omega) (ints_cells s4.ints) (ints_one _) (by unfold maxLen; omega) (by omega) (by omega) ?_; intro v5 w5 hown5 hgrow5 hnil5 hat5; obtain ⟨h5, c5, rfl, ha5, hr5, hgb5⟩ := app_many hr4 hH hB0 ha4 hgb4 hown5 hgrow5 s4.len (by omega) (by rw [List.length_append, List.length_take, s2.len]; simp; omega); clear hown5 hgrow5 hnil5 hat5)))
        go_roundw
        case rel => exact ⟨i, a + 1 + 0, h5, c5, m' + 1, _, by go_num, rfl, by omega, by omega, ha5, hr5, hgb5⟩
        case measure => simp [intOf]
      · have sd := s2.drop han
        rw [Nat.zero_add] at sd
        go_wp2_with fail
        go_at_call 65
        refine (spec_copyInts_s sd).mono ?_
        rintro e w3 ⟨g6, c6, rfl, ho6, hb3⟩
        have hg6 := (Own.at ho6).2.1
        have hl6 : ((zs.drop a)).length = (n - a) := by rw [List.length_drop, s2.len]
        rw [hl6] at ho6
        have s3 := ho6.sm (by omega)
        have hp := own_prefix (ho2.below hb3) han
        have hr3 := hr2'.below hb3
        have hgb3 := gb_below hgb2 hb3
        have hz3 := hgb3.size
        rw [hl6]
        clear ho6 hb3
        go_wp2_with (first | (at_builtin; (refine wpList_append_own_at _ rfl (.tmp 26) (.tmp 29) 23 rfl w.heap.size 3 j0 (.int .i64 0) 1 8 Try.underlying23 ji jz0 jz1 jz2 rfl (by decide) _ a _ rfl (World.ownsRow.alloc (own_row' hp (by rw [List.length_take, s2.len]; omega)) _) ⟨_, 0, none⟩ 1 1 [.int .i64 n] rfl rfl (cell_one_at _ _ _ _ (by first | rfl | simp)) (by intro u hu; simp at hu; subst hu; rfl) (by unfold maxLen; omega) (by omega) (by simp; omega) ?_; intro v1 w4 hown1 hgrow1 hnil1 hat1; obtain ⟨h4, c4, rfl, ha4, hr4, hgb4⟩ := app_step' hr3 hH hB0 hp hgb3 hown1 hgrow1 (by rw [List.length_take, s2.len]; omega); have hgr1 : World.grownBy _ w4 (some h) := hgrow1; have hgh : g6 ≠ h := (by omega); have s4 := ((s3.below ((Below.refl _ _).alloc (Nat.le_refl _) _)).grown hgr1 (by intro e; injection e with e; exact hgh e)); have hz4 := hgb4.size; clear hown1 hgrow1 hnil1 hat1)) | (at_builtin; (refine wpList_append_own_at _ rfl (.tmp 30) (.tmp 31) 23 rfl w.heap.size 3 j0 (.int .i64 0) 1 8 Try.underlying23 ji jz0 jz1 jz2 rfl (by decide) _ (a + 1) _ rfl (own_row' ha4 (by rw [List.length_append, List.length_take, s2.len]; simp; omega)) ⟨g6, 0, none⟩ (n - a) c6 ((zs.drop a).map (Value.int .i64)) rfl (by rw [List.length_map, s4.len] <;> omega) (ints_cells s4.ints) (ints_one _) (by unfold maxLen; omega) (by omega) (by omega) ?_; intro v5 w5 hown5 hgrow5 hnil5 hat5; obtain ⟨h5, c5, rfl, ha5, hr5, hgb5⟩ := app_many hr4 hH hB0 ha4 hgb4 hown5 hgrow5 s4.len (by omega) (by rw [List.length_append, List.length_take, s2.len]; simp; omega); clear hown5 hgrow5 hnil5 hat5)))
        go_roundw
        case rel => exact ⟨i, a + 1 + (n - a), h5, c5, m' + 1, _, by go_num, rfl, by omega, by omega, ha5, hr5, hgb5⟩
        case measure => simp [intOf]
    · obtain rfl : j = 0 := by omega
      go_wp2_with fail
      go_ret
      exact ⟨h, n, c, zs, rfl, ho, by omega, hr2.mono (by omega), hgb⟩
set_option maxHeartbeats 1000000 in
theorem anyTurn_c {w : World} {B g m : Nat} (hr : Rdr w B g m) (hm : m ≤ 800000) :
    Calls Try.prog 68 #[.pointer (some ⟨g, 0, none⟩)] w (PkL 30 B g (m + 60) w) := by
  have hH := hr.lt
  have hB := hr.ge
  have hr0 := hr
  go_enter Try.func68, Try.ntmps68
  go_wp2_with fail
  go_at_call 92
  refine (someTurn_c (show Rdr _ B g _ by repeat' (first | with_reducible exact hr0 | with_reducible apply Rdr.alloc | with_reducible apply Rdr.drew1 | with_reducible apply Rdr.drew | (apply Rdr.setO (ha := by first | omega | (simp; omega)) (hB := by first | omega | (simp; omega))))) (by omega)).mono ?_
  rintro e w1 ⟨h, n, c, zs, rfl, ho, hn, hr1, hg1⟩
  obtain ⟨hc1, hf1, hz1⟩ := gcell hg1 hH
  (try simp at hz1)
  (try (have ne1_0_0 : ¬ (w1.heap.size = w.heap.size) := by omega)); (try (have nf1_0_0 : ¬ (w.heap.size = w1.heap.size) := by omega))
  (try (have ne1_0_1 : ¬ (w1.heap.size = w.heap.size + 1) := by omega)); (try (have nf1_0_1 : ¬ (w.heap.size + 1 = w1.heap.size) := by omega))
  (try (have y1 : w.heap.size ≤ w1.heap.size := by omega))
  (try (have z1_0_0 : w.heap.size < w1.heap.size := by omega))
  (try (have z1_0_1 : w.heap.size + 1 < w1.heap.size := by omega))
  (try (have z1_0_2 : w.heap.size + 1 + 1 < w1.heap.size := by omega))
  have hhw := (Own.at ho).2.1
  clear hc1 hf1
  by_cases h0 : 0 < n
  · have i1 : (0 : Int) < (n : Int) := by omega
    go_wp2_with fail
    go_at_call 87
    refine (pick_c (show Rdr _ B g _ by repeat' (first | with_reducible exact hr1 | with_reducible apply Rdr.alloc | with_reducible apply Rdr.drew1 | with_reducible apply Rdr.drew | (apply Rdr.setO (ha := by first | omega | (simp; omega)) (hB := by first | omega | (simp; omega))))) (by omega) _).mono ?_
    rintro e w2 ⟨x2, rfl, ⟨p2, q2⟩, hr2, hg2⟩
    replace q2 := q2 (by omega)
    obtain ⟨hc2, hf2, hz2⟩ := gcell hg2 hH
    (try simp at hz2)
    (try (have ne2_0_0 : ¬ (w2.heap.size = w.heap.size) := by omega)); (try (have nf2_0_0 : ¬ (w.heap.size = w2.heap.size) := by omega))
    (try (have ne2_0_1 : ¬ (w2.heap.size = w.heap.size + 1) := by omega)); (try (have nf2_0_1 : ¬ (w.heap.size + 1 = w2.heap.size) := by omega))
    (try (have ne2_1_0 : ¬ (w2.heap.size = w1.heap.size) := by omega)); (try (have nf2_1_0 : ¬ (w1.heap.size = w2.heap.size) := by omega))
    (try (have ne2_1_1 : ¬ (w2.heap.size = w1.heap.size + 1) := by omega)); (try (have nf2_1_1 : ¬ (w1.heap.size + 1 = w2.heap.size) := by omega))
    (try (have y2 : w.heap.size ≤ w2.heap.size := by omega))
    (try (have y2_1 : w1.heap.size ≤ w2.heap.size := by omega))
    (try (have z2_0_0 : w.heap.size < w2.heap.size := by omega))
    (try (have z2_0_1 : w.heap.size + 1 < w2.heap.size := by omega))
    (try (have z2_0_2 : w.heap.size + 1 + 1 < w2.heap.size := by omega))
    (try (have z2_1_0 : w1.heap.size < w2.heap.size := by omega))
    (try (have z2_1_1 : w1.heap.size + 1 < w2.heap.size := by omega))
    have ho2 := ho.other hg2 (by omega)
    clear hc2 hf2
    by_cases t0 : x2 = 0
    · subst t0
      go_wp2_with fail
      go_at_call 87
      refine (pick_c (show Rdr _ B g _ by repeat' (first | with_reducible exact hr2 | with_reducible apply Rdr.alloc | with_reducible apply Rdr.drew1 | with_reducible apply Rdr.drew | (apply Rdr.setO (ha := by first | omega | (simp; omega)) (hB := by first | omega | (simp; omega))))) (by omega) _).mono ?_
      rintro e w3 ⟨x3, rfl, ⟨p3, q3⟩, hr3, hg3⟩
      replace q3 := q3 (by omega)
      obtain ⟨hc3, hf3, hz3⟩ := gcell hg3 hH
      (try simp at hz3)
      (try (have ne3_0_0 : ¬ (w3.heap.size = w.heap.size) := by omega)); (try (have nf3_0_0 : ¬ (w.heap.size = w3.heap.size) := by omega))
      (try (have ne3_0_1 : ¬ (w3.heap.size = w.heap.size + 1) := by omega)); (try (have nf3_0_1 : ¬ (w.heap.size + 1 = w3.heap.size) := by omega))
      (try (have ne3_1_0 : ¬ (w3.heap.size = w1.heap.size) := by omega)); (try (have nf3_1_0 : ¬ (w1.heap.size = w3.heap.size) := by omega))
      (try (have ne3_1_1 : ¬ (w3.heap.size = w1.heap.size + 1) := by omega)); (try (have nf3_1_1 : ¬ (w1.heap.size + 1 = w3.heap.size) := by omega))
      (try (have ne3_2_0 : ¬ (w3.heap.size = w2.heap.size) := by omega)); (try (have nf3_2_0 : ¬ (w2.heap.size = w3.heap.size) := by omega))
      (try (have ne3_2_1 : ¬ (w3.heap.size = w2.heap.size + 1) := by omega)); (try (have nf3_2_1 : ¬ (w2.heap.size + 1 = w3.heap.size) := by omega))
      (try (have y3 : w.heap.size ≤ w3.heap.size := by omega))
      (try (have y3_1 : w1.heap.size ≤ w3.heap.size := by omega))
      (try (have y3_2 : w2.heap.size ≤ w3.heap.size := by omega))
      (try (have z3_0_0 : w.heap.size < w3.heap.size := by omega))
      (try (have z3_0_1 : w.heap.size + 1 < w3.heap.size := by omega))
      (try (have z3_0_2 : w.heap.size + 1 + 1 < w3.heap.size := by omega))
      (try (have z3_1_0 : w1.heap.size < w3.heap.size := by omega))
      (try (have z3_1_1 : w1.heap.size + 1 < w3.heap.size := by omega))
      (try (have z3_2_0 : w2.heap.size < w3.heap.size := by omega))
      (try (have z3_2_1 : w2.heap.size + 1 < w3.heap.size := by omega))
      go_wp2_with fail
      have ho3 := ho2.other hg3 (by omega)
      clear hc3 hf3
      go_at_call 58
      refine (one_any (show Rdr _ B g _ by repeat' (first | with_reducible exact hr3 | with_reducible apply Rdr.alloc | with_reducible apply Rdr.drew1 | with_reducible apply Rdr.drew | (apply Rdr.setO (ha := by first | omega | (simp; omega)) (hB := by first | omega | (simp; omega))))) (by omega) (by exact lit_any _ _ _ _ (by first | rfl | simp) rfl (by simp)) (by omega) (by first | omega | (simp; omega))).mono ?_
      rintro e w4 ⟨x4, rfl, p4, hr4, hg4⟩
      clear p4
      obtain ⟨hc4, hf4, hz4⟩ := gcell hg4 hH
      (try simp at hz4)
      (try (have ne4_0_0 : ¬ (w4.heap.size = w.heap.size) := by omega)); (try (have nf4_0_0 : ¬ (w.heap.size = w4.heap.size) := by omega))
      (try (have ne4_0_1 : ¬ (w4.heap.size = w.heap.size + 1) := by omega)); (try (have nf4_0_1 : ¬ (w.heap.size + 1 = w4.heap.size) := by omega))
      (try (have ne4_1_0 : ¬ (w4.heap.size = w1.heap.size) := by omega)); (try (have nf4_1_0 : ¬ (w1.heap.size = w4.heap.size) := by omega))
      (try (have ne4_1_1 : ¬ (w4.heap.size = w1.heap.size + 1) := by omega)); (try (have nf4_1_1 : ¬ (w1.heap.size + 1 = w4.heap.size) := by omega))
      (try (have ne4_2_0 : ¬ (w4.heap.size = w2.heap.size) := by omega)); (try (have nf4_2_0 : ¬ (w2.heap.size = w4.heap.size) := by omega))
      (try (have ne4_2_1 : ¬ (w4.heap.size = w2.heap.size + 1) := by omega)); (try (have nf4_2_1 : ¬ (w2.heap.size + 1 = w4.heap.size) := by omega))
      (try (have ne4_3_0 : ¬ (w4.heap.size = w3.heap.size) := by omega)); (try (have nf4_3_0 : ¬ (w3.heap.size = w4.heap.size) := by omega))
      (try (have ne4_3_1 : ¬ (w4.heap.size = w3.heap.size + 1) := by omega)); (try (have nf4_3_1 : ¬ (w3.heap.size + 1 = w4.heap.size) := by omega))
      (try (have y4 : w.heap.size ≤ w4.heap.size := by omega))
      (try (have y4_1 : w1.heap.size ≤ w4.heap.size := by omega))
      (try (have y4_2 : w2.heap.size ≤ w4.heap.size := by omega))
      (try (have y4_3 : w3.heap.size ≤ w4.heap.size := by omega))
      (try (have z4_0_0 : w.heap.size < w4.heap.size := by omega))
      (try (have z4_0_1 : w.heap.size + 1 < w4.heap.size := by omega))
      (try (have z4_0_2 : w.heap.size + 1 + 1 < w4.heap.size := by omega))
      (try (have z4_1_0 : w1.heap.size < w4.heap.size := by omega))
      (try (have z4_1_1 : w1.heap.size + 1 < w4.heap.size := by omega))
      (try (have z4_2_0 : w2.heap.size < w4.heap.size := by omega))
      (try (have z4_2_1 : w2.heap.size + 1 < w4.heap.size := by omega))
      (try (have z4_3_0 : w3.heap.size < w4.heap.size := by omega))
      (try (have z4_3_1 : w3.heap.size + 1 < w4.heap.size := by omega))
      have ho4 := (ho3.below ((Below.refl _ _).alloc (Nat.le_refl _) _)).other hg4 (by omega)
      clear hc4 hf4
      obtain ⟨q, rfl⟩ : ∃ q : Nat, x3 = q := ⟨x3.toNat, by omega⟩
      have hq : q < n := by omega
      have f1 := (own_facts ho4 q).1 hq
      have f2 := (own_facts ho4 q).2
      have ho5 := own_set ho4 q x4
      have hr5 : Rdr (w4.setCell ⟨h, q, none⟩ (.int .i64 x4)) B g (m + 60) := (Rdr.setO hr4 (by omega) (by omega) _).mono (by omega)
      go_wp2_with fail
      go_ret
      exact ⟨h, n, c, _, rfl, ho5, hn, hr5, (by repeat' (first | with_reducible exact World.grownBy.refl _ _ | with_reducible refine gb_alloc ?_ _ | with_reducible refine gb_set ?_ (by first | omega | (simp; omega)) _ | with_reducible refine gb_drewN ?_ _ | with_reducible refine gb_drew1 ?_ | with_reducible refine gb_trans ?_ (by assumption)))⟩
    · have t0' : (x2 == 0) = false := by simpa using t0
      go_wp2_with fail
      go_ret
      exact ⟨h, n, c, zs, rfl, ho2, hn, hr2.mono (by omega), (by repeat' (first | with_reducible exact World.grownBy.refl _ _ | with_reducible refine gb_alloc ?_ _ | with_reducible refine gb_set ?_ (by first | omega | (simp; omega)) _ | with_reducible refine gb_drewN ?_ _ | with_reducible refine gb_drew1 ?_ | with_reducible refine gb_trans ?_ (by assumption)))⟩
  · obtain rfl : n = 0 := by omega
    go_wp2_with fail
    go_ret
    exact ⟨h, 0, c, zs, rfl, ho, hn, hr1.mono (by omega), hg1⟩
end Go.Proofs.Ytddpjgcodnfbjaa
