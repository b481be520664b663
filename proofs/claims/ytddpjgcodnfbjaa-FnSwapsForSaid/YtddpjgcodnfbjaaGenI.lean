/- What the generators of spec draw: lists of ints; no statement is proved here. -/
import Derived.Test.YtddpjgcodnfbjaaGen
import Derived.Test.YtddpjgcodnfbjaaPuts
namespace Go.Proofs.Ytddpjgcodnfbjaa
open Go.ChangeShapes Go.WideShapes Go.ChangeAt Go.RowKit
set_option linter.unusedVariables false
set_option linter.unusedSimpArgs false

/-- a generator's call: it returns a new list of at most L ints, and turns nothing but the reader -/
def PkL (L B g m : Nat) (w : World) : Ending → World → Prop := fun e w' => ∃ h n c zs, e = .returned (.slice (some ⟨h, 0, none⟩) n c) ∧ Own w' w.heap.size 3 (.slice (some ⟨h, 0, none⟩) n c) zs ∧ n ≤ L ∧ Rdr w' B g m ∧ w.grownBy w' (some g)
theorem gb_other {a w w' : World} {row : Option Nat} {h : Nat} (hg : a.grownBy w row) (k : w.grownBy w' (some h)) (hh : a.heap.size ≤ h) : a.grownBy w' row :=
  ⟨k.os.trans hg.os, k.tape.trans hg.tape, k.output.trans hg.output, Nat.le_trans hg.size k.size, fun b hb hr => (k.block b (Nat.lt_of_lt_of_le hb hg.size) (by intro e; injection e with e; omega)).trans (hg.block b hb hr)⟩
theorem Own.other {W w : World} {B : Nat} {E : TypeId} {h n c g : Nat} {zs : List Int} (ho : Own W B E (.slice (some ⟨h, 0, none⟩) n c) zs) (hg : W.grownBy w (some g)) (hne : h ≠ g) : Own w B E (.slice (some ⟨h, 0, none⟩) n c) zs :=
  World.ownsRow.kept ho hg (.inr (fun e => hne (by injection e with e)))
theorem Own.row {w : World} {B : Nat} {E : TypeId} {v : Value} {zs : List Int} {n : Nat} (h : Own w B E v zs) (hl : zs.length = n) : w.ownsRow B E 1 v n (zs.map (Value.int .i64)) := hl ▸ h
/-- what an append of one int to a row of the call's own leaves, beside a reader -/
theorem app_step {w wq w1 : World} {B g m h n c : Nat} {zs : List Int} {v1 : Value} {x : Int} {o : Obj} (hr : Rdr wq B g m) (hH : g < w.heap.size) (hB : B ≤ w.heap.size)
    (ho : Own wq w.heap.size 3 (.slice (some ⟨h, 0, none⟩) n c) zs) (hgb : w.grownBy wq (some g))
    (h1 : w1.ownsRow w.heap.size 3 1 v1 (n + 1) (zs.map (Value.int .i64) ++ [.int .i64 x])) (h2 : (wq.alloc o).grownBy w1 (some h)) :
    ∃ h' c', v1 = .slice (some ⟨h', 0, none⟩) (n + 1) c' ∧ Own w1 w.heap.size 3 (.slice (some ⟨h', 0, none⟩) (n + 1) c') (zs ++ [x]) ∧ Rdr w1 B g m ∧ w.grownBy w1 (some g) := by
  have hl := (Own.at ho).1
  have hh := (Own.at ho).2.1
  subst hl
  have ha := own_app h1
  obtain ⟨g1, c1, rfl⟩ := own_app_form ha rfl
  refine ⟨g1, c1, rfl, ha, ?_, ?_⟩
  · exact (hr.alloc o).grown h2 (by intro e; injection e with e; omega) (fun r hr => by cases hr; omega)
  · exact gb_other (gb_alloc hgb o) h2 hh
set_option maxHeartbeats 1000000 in
theorem someLengths_c {w : World} {B g m : Nat} (hr : Rdr w B g m) (hm : m ≤ 900000) :
    Calls Try.prog 73 #[.pointer (some ⟨g, 0, none⟩)] w (PkL 10 B g (m + 20) w) := by
  obtain ⟨j0, ji, jz0, jz1, jz2⟩ := info_parts Try.infoInt
  have hH := hr.lt
  have hB := hr.ge
  have hB0 : B ≤ w.heap.size := by omega
  have hr0 := hr
  have ho0 : Own (w.alloc (.cells #[] 3)) w.heap.size 3 (.slice (some ⟨w.heap.size, 0, none⟩) 0 0) [] := own_empty w w.heap.size (Nat.le_refl _)
  go_enter Try.func73, Try.ntmps73
  go_wp2_with fail
  go_at_call 58
  refine (one_c (zs := [2, 3, 1, 4, 0]) (show Rdr _ B g _ by repeat' (first | with_reducible exact hr0 | with_reducible apply Rdr.alloc | with_reducible apply Rdr.drew1 | with_reducible apply Rdr.drew | (apply Rdr.setO (ha := by first | omega | (simp; omega)) (hB := by first | omega | (simp; omega))))) (by omega) (by exact lit_at _ [2, 3, 1, 4, 0] 5 _ rfl (by omega) (by first | rfl | simp)) (by omega) (by first | omega | (simp; omega))).mono ?_
  rintro e w1 ⟨x1, rfl, p1, hr1, hg1⟩
  have q1 : 0 ≤ x1 ∧ x1 ≤ 4 := by simp at p1; omega
  clear p1
  obtain ⟨q1a, q1b⟩ := q1
  obtain ⟨hc1, hf1, hz1⟩ := gcell hg1 hH
  (try simp at hz1)
  (try (have ne1_0_0 : ¬ (w1.heap.size = w.heap.size) := by omega)); (try (have nf1_0_0 : ¬ (w.heap.size = w1.heap.size) := by omega))
  (try (have ne1_0_1 : ¬ (w1.heap.size = w.heap.size + 1) := by omega)); (try (have nf1_0_1 : ¬ (w.heap.size + 1 = w1.heap.size) := by omega))
  (try (have y1 : w.heap.size ≤ w1.heap.size := by omega))
  (try (have z1_0_0 : w.heap.size < w1.heap.size := by omega))
  (try (have z1_0_1 : w.heap.size + 1 < w1.heap.size := by omega))
  (try (have z1_0_2 : w.heap.size + 1 + 1 < w1.heap.size := by omega))
  go_wp2_with fail
  have ho1 := (ho0.below ((Below.refl _ _).alloc (Nat.le_refl _) _)).other hg1 (by omega)
  have hgb1 : w.grownBy w1 (some g) := (by repeat' (first | with_reducible exact World.grownBy.refl _ _ | with_reducible refine gb_alloc ?_ _ | with_reducible refine gb_set ?_ (by first | omega | (simp; omega)) _ | with_reducible refine gb_drewN ?_ _ | with_reducible refine gb_drew1 ?_ | with_reducible refine gb_trans ?_ (by assumption)))
  obtain ⟨x, rfl⟩ : ∃ x : Nat, x1 = x := ⟨x1.toNat, by omega⟩
  clear hc1 hf1
  go_loopw [3, 4] (fun o k wr => ∃ j n h c m' : Nat, ∃ zs, k = .int .i64 j ∧ o = .slice (some ⟨h, 0, none⟩) n c ∧ n + j ≤ 10 ∧ m' + j ≤ m + 15 ∧ Own wr w.heap.size 3 (.slice (some ⟨h, 0, none⟩) n c) zs ∧ Rdr wr B g m' ∧ w.grownBy wr (some g)) (fun _ k _ => (intOf k).toNat)
  case atStart => exact ⟨x, 0, w.heap.size, 0, m + 1, [], rfl, rfl, by omega, by omega, ho1, hr1, hgb1⟩
  case round =>
    obtain ⟨j, n, h, c, m', zs, rfl, rfl, hnj, hmj, ho, hr2, hgb⟩ := hrel
    clear ho0 ho1 hr1 hg1 hgb1
    have hr1 := hr2
    have hhw := (Own.at ho).2.1
    have hsz := hgb.size
    by_cases hj : 0 < j
    · obtain ⟨i, rfl⟩ : ∃ i, j = i + 1 := ⟨j - 1, by omega⟩
      have i1 : (0 : Int) < ((i + 1 : Nat) : Int) := by omega
      go_wp2_with fail
      go_at_call 58
      refine (one_c (zs := [5, 7, 3, 12, 20, 2, 31]) (show Rdr _ B g _ by repeat' (first | with_reducible exact hr1 | with_reducible apply Rdr.alloc | with_reducible apply Rdr.drew1 | with_reducible apply Rdr.drew | (apply Rdr.setO (ha := by first | omega | (simp; omega)) (hB := by first | omega | (simp; omega))))) (by omega) (by exact lit_at _ [5, 7, 3, 12, 20, 2, 31] 7 _ rfl (by omega) (by first | rfl | simp)) (by omega) (by first | omega | (simp; omega))).mono ?_
      rintro e w2 ⟨x2, rfl, p2, hr2, hg2⟩
      clear p2
      obtain ⟨hc2, hf2, hz2⟩ := gcell hg2 hH
      (try simp at hz2)
      (try (have ne2_0_0 : ¬ (w2.heap.size = w.heap.size) := by omega)); (try (have nf2_0_0 : ¬ (w.heap.size = w2.heap.size) := by omega))
      (try (have ne2_0_1 : ¬ (w2.heap.size = w.heap.size + 1) := by omega)); (try (have nf2_0_1 : ¬ (w.heap.size + 1 = w2.heap.size) := by omega))
      (try (have ne2_1_0 : ¬ (w2.heap.size = w1.heap.size) := by omega)); (try (have nf2_1_0 : ¬ (w1.heap.size = w2.heap.size) := by omega))
      (try (have ne2_1_1 : ¬ (w2.heap.size = w1.heap.size + 1) := by omega)); (try (have nf2_1_1 : ¬ (w1.heap.size + 1 = w2.heap.size) := by omega))
      (try (have y2 : w.heap.size ≤ w2.heap.size := by omega))
      (try (have y2_1 : w1.heap.size ≤ w2.heap.size := by omega))
      (try (have z2_0_0 : w.heap.size < w2.heap.size := by omega))
      (try (have z2_0_1 : w.heap.size + 1 < w2.heap.size := by omega))
      (try (have z2_0_2 : w.heap.size + 1 + 1 < w2.heap.size := by omega))
      (try (have z2_1_0 : w1.heap.size < w2.heap.size := by omega))
      (try (have z2_1_1 : w1.heap.size + 1 < w2.heap.size := by omega))
      have ho2 := (ho.below ((Below.refl _ _).alloc (Nat.le_refl _) _)).other hg2 (by omega)
      have hgb2 : w.grownBy w2 (some g) := gb_trans (gb_alloc hgb _) hg2
      clear hc2 hf2 ho hgb hg2
      go_wp2_with (at_builtin; refine wpList_append_own_at _ rfl _ _ 23 rfl w.heap.size 3 j0 (.int .i64 0) 1 8 Try.underlying23 ji jz0 jz1 jz2 rfl (by decide) _ (n) _ rfl (World.ownsRow.alloc (show World.ownsRow _ w.heap.size 3 1 _ (n) _ from (ho2).row (Own.at (ho2)).1.symm) _) ⟨_, 0, none⟩ 1 1 [.int .i64 (x2)] rfl rfl (cell_one_at _ _ _ _ (by first | rfl | simp)) (by intro u hu; simp at hu; subst hu; rfl) (by unfold maxLen; omega) (by omega) (by simp; omega) ?_; intro v1 w3 hown1 hgrow1 hnil1 hat1)
      obtain ⟨h', c', rfl, ha, hr3, hgb3⟩ := app_step hr2 hH hB0 ho2 hgb2 hown1 hgrow1
      clear hown1 hgrow1 hnil1 hat1 ho2 hgb2 hr1
      go_wp2
      go_roundw
      case rel => exact ⟨i, n + 1, h', c', m' + 1, zs ++ [x2], by go_num, rfl, by omega, by omega, ha, hr3, hgb3⟩
      case measure => simp [intOf]
    · obtain rfl : j = 0 := by omega
      by_cases hn : 0 < n
      · have i1 : (0 : Int) < (n : Int) := by omega
        go_wp2_with fail
        go_at_call 87
        refine (pick_c (show Rdr _ B g _ by repeat' (first | with_reducible exact hr1 | with_reducible apply Rdr.alloc | with_reducible apply Rdr.drew1 | with_reducible apply Rdr.drew | (apply Rdr.setO (ha := by first | omega | (simp; omega)) (hB := by first | omega | (simp; omega))))) (by omega) _).mono ?_
        rintro e w2 ⟨x2, rfl, ⟨p2, q2⟩, hr2, hg2⟩
        replace q2 := q2 (by omega)
        obtain ⟨hc2, hf2, hz2⟩ := gcell hg2 hH
        (try simp at hz2)
        (try (have ne2_0_0 : ¬ (w2.heap.size = w.heap.size) := by omega)); (try (have nf2_0_0 : ¬ (w.heap.size = w2.heap.size) := by omega))
        (try (have ne2_0_1 : ¬ (w2.heap.size = w.heap.size + 1) := by omega)); (try (have nf2_0_1 : ¬ (w.heap.size + 1 = w2.heap.size) := by omega))
        (try (have ne2_1_0 : ¬ (w2.heap.size = w1.heap.size) := by omega)); (try (have nf2_1_0 : ¬ (w1.heap.size = w2.heap.size) := by omega))
        (try (have ne2_1_1 : ¬ (w2.heap.size = w1.heap.size + 1) := by omega)); (try (have nf2_1_1 : ¬ (w1.heap.size + 1 = w2.heap.size) := by omega))
        (try (have y2 : w.heap.size ≤ w2.heap.size := by omega))
        (try (have y2_1 : w1.heap.size ≤ w2.heap.size := by omega))
        (try (have z2_0_0 : w.heap.size < w2.heap.size := by omega))
        (try (have z2_0_1 : w.heap.size + 1 < w2.heap.size := by omega))
        (try (have z2_0_2 : w.heap.size + 1 + 1 < w2.heap.size := by omega))
        (try (have z2_1_0 : w1.heap.size < w2.heap.size := by omega))
        (try (have z2_1_1 : w1.heap.size + 1 < w2.heap.size := by omega))
        have ho2 := ho.other hg2 (by omega)
        have hgb2 : w.grownBy w2 (some g) := gb_trans hgb hg2
        clear hc2 hf2 ho hgb hg2
        by_cases t0 : x2 = 0
        · subst t0
          go_wp2_with fail
          go_at_call 58
          refine (one_c (zs := [0, 201]) (show Rdr _ B g _ by repeat' (first | with_reducible exact hr2 | with_reducible apply Rdr.alloc | with_reducible apply Rdr.drew1 | with_reducible apply Rdr.drew | (apply Rdr.setO (ha := by first | omega | (simp; omega)) (hB := by first | omega | (simp; omega))))) (by omega) (by exact lit_at _ [0, 201] 2 _ rfl (by omega) (by first | rfl | simp)) (by omega) (by first | omega | (simp; omega))).mono ?_
          rintro e w3 ⟨x3, rfl, p3, hr3, hg3⟩
          clear p3
          obtain ⟨hc3, hf3, hz3⟩ := gcell hg3 hH
          (try simp at hz3)
          (try (have ne3_0_0 : ¬ (w3.heap.size = w.heap.size) := by omega)); (try (have nf3_0_0 : ¬ (w.heap.size = w3.heap.size) := by omega))
          (try (have ne3_0_1 : ¬ (w3.heap.size = w.heap.size + 1) := by omega)); (try (have nf3_0_1 : ¬ (w.heap.size + 1 = w3.heap.size) := by omega))
          (try (have ne3_1_0 : ¬ (w3.heap.size = w1.heap.size) := by omega)); (try (have nf3_1_0 : ¬ (w1.heap.size = w3.heap.size) := by omega))
          (try (have ne3_1_1 : ¬ (w3.heap.size = w1.heap.size + 1) := by omega)); (try (have nf3_1_1 : ¬ (w1.heap.size + 1 = w3.heap.size) := by omega))
          (try (have ne3_2_0 : ¬ (w3.heap.size = w2.heap.size) := by omega)); (try (have nf3_2_0 : ¬ (w2.heap.size = w3.heap.size) := by omega))
          (try (have ne3_2_1 : ¬ (w3.heap.size = w2.heap.size + 1) := by omega)); (try (have nf3_2_1 : ¬ (w2.heap.size + 1 = w3.heap.size) := by omega))
          (try (have y3 : w.heap.size ≤ w3.heap.size := by omega))
          (try (have y3_1 : w1.heap.size ≤ w3.heap.size := by omega))
          (try (have y3_2 : w2.heap.size ≤ w3.heap.size := by omega))
          (try (have z3_0_0 : w.heap.size < w3.heap.size := by omega))
          (try (have z3_0_1 : w.heap.size + 1 < w3.heap.size := by omega))
          (try (have z3_0_2 : w.heap.size + 1 + 1 < w3.heap.size := by omega))
          (try (have z3_1_0 : w1.heap.size < w3.heap.size := by omega))
          (try (have z3_1_1 : w1.heap.size + 1 < w3.heap.size := by omega))
          (try (have z3_2_0 : w2.heap.size < w3.heap.size := by omega))
          (try (have z3_2_1 : w2.heap.size + 1 < w3.heap.size := by omega))
          have ho3 := (ho2.below ((Below.refl _ _).alloc (Nat.le_refl _) _)).other hg3 (by omega)
          have hgb3 : w.grownBy w3 (some g) := gb_trans (gb_alloc hgb2 _) hg3
          clear hc3 hf3 ho2 hgb2 hg3
          have f1 := (own_facts ho3 0).1 hn
          have f2 := (own_facts ho3 0).2
          have ho4 := own_set ho3 0 x3
          have hr4 : Rdr (w3.setCell ⟨h, 0, none⟩ (.int .i64 x3)) B g (m + 20) := (Rdr.setO hr3 (by omega) (by omega) _).mono (by omega)
          have hgb4 := gb_set hgb3 hhw (.int .i64 x3) (i := 0)
          go_wp2_with fail
          go_ret
          exact ⟨h, n, c, _, rfl, ho4, by omega, hr4, hgb4⟩
        · have t0' : (x2 == 0) = false := by simpa using t0
          go_wp2_with fail
          go_ret
          exact ⟨h, n, c, zs, rfl, ho2, by omega, hr2.mono (by omega), hgb2⟩
      · obtain rfl : n = 0 := by omega
        go_wp2_with fail
        go_ret
        exact ⟨h, 0, c, zs, rfl, ho, by omega, hr2.mono (by omega), hgb⟩
set_option maxHeartbeats 1000000 in
theorem anyHarp_c {w : World} {B g m : Nat} (hr : Rdr w B g m) (hm : m ≤ 900000) :
    Calls Try.prog 57 #[.pointer (some ⟨g, 0, none⟩)] w (PkL 50 B g (m + 60) w) := by
  obtain ⟨j0, ji, jz0, jz1, jz2⟩ := info_parts Try.infoInt
  have hH := hr.lt
  have hB := hr.ge
  have hB0 : B ≤ w.heap.size := by omega
  have hr0 := hr
  have ho0 : Own (w.alloc (.cells #[] 3)) w.heap.size 3 (.slice (some ⟨w.heap.size, 0, none⟩) 0 0) [] := own_empty w w.heap.size (Nat.le_refl _)
  go_enter Try.func57, Try.ntmps57
  go_wp2_with fail
  go_at_call 58
  refine (one_c (zs := [4, 6, 2, 0, 20]) (show Rdr _ B g _ by repeat' (first | with_reducible exact hr0 | with_reducible apply Rdr.alloc | with_reducible apply Rdr.drew1 | with_reducible apply Rdr.drew | (apply Rdr.setO (ha := by first | omega | (simp; omega)) (hB := by first | omega | (simp; omega))))) (by omega) (by exact lit_at _ [4, 6, 2, 0, 20] 5 _ rfl (by omega) (by first | rfl | simp)) (by omega) (by first | omega | (simp; omega))).mono ?_
  rintro e w1 ⟨x1, rfl, p1, hr1, hg1⟩
  have q1 : 0 ≤ x1 ∧ x1 ≤ 20 := by simp at p1; omega
  clear p1
  obtain ⟨q1a, q1b⟩ := q1
  obtain ⟨hc1, hf1, hz1⟩ := gcell hg1 hH
  (try simp at hz1)
  (try (have ne1_0_0 : ¬ (w1.heap.size = w.heap.size) := by omega)); (try (have nf1_0_0 : ¬ (w.heap.size = w1.heap.size) := by omega))
  (try (have ne1_0_1 : ¬ (w1.heap.size = w.heap.size + 1) := by omega)); (try (have nf1_0_1 : ¬ (w.heap.size + 1 = w1.heap.size) := by omega))
  (try (have y1 : w.heap.size ≤ w1.heap.size := by omega))
  (try (have z1_0_0 : w.heap.size < w1.heap.size := by omega))
  (try (have z1_0_1 : w.heap.size + 1 < w1.heap.size := by omega))
  (try (have z1_0_2 : w.heap.size + 1 + 1 < w1.heap.size := by omega))
  go_wp2_with fail
  have ho1 := (ho0.below ((Below.refl _ _).alloc (Nat.le_refl _) _)).other hg1 (by omega)
  have hgb1 : w.grownBy w1 (some g) := (by repeat' (first | with_reducible exact World.grownBy.refl _ _ | with_reducible refine gb_alloc ?_ _ | with_reducible refine gb_set ?_ (by first | omega | (simp; omega)) _ | with_reducible refine gb_drewN ?_ _ | with_reducible refine gb_drew1 ?_ | with_reducible refine gb_trans ?_ (by assumption)))
  obtain ⟨x, rfl⟩ : ∃ x : Nat, x1 = x := ⟨x1.toNat, by omega⟩
  clear hc1 hf1
  go_loopw [3, 4] (fun o k wr => ∃ j n h c m' : Nat, ∃ zs, k = .int .i64 j ∧ o = .slice (some ⟨h, 0, none⟩) n c ∧ n + j ≤ 50 ∧ m' + j ≤ m + 55 ∧ Own wr w.heap.size 3 (.slice (some ⟨h, 0, none⟩) n c) zs ∧ Rdr wr B g m' ∧ w.grownBy wr (some g)) (fun _ k _ => (intOf k).toNat)
  case atStart => exact ⟨x, 0, w.heap.size, 0, m + 1, [], rfl, rfl, by omega, by omega, ho1, hr1, hgb1⟩
  case round =>
    obtain ⟨j, n, h, c, m', zs, rfl, rfl, hnj, hmj, ho, hr2, hgb⟩ := hrel
    clear ho0 ho1 hr1 hg1 hgb1
    have hr1 := hr2
    have hhw := (Own.at ho).2.1
    have hsz := hgb.size
    by_cases hj : 0 < j
    · obtain ⟨i, rfl⟩ : ∃ i, j = i + 1 := ⟨j - 1, by omega⟩
      have i1 : (0 : Int) < ((i + 1 : Nat) : Int) := by omega
      go_wp2_with fail
      go_at_call 58
      refine (one_any (show Rdr _ B g _ by repeat' (first | with_reducible exact hr1 | with_reducible apply Rdr.alloc | with_reducible apply Rdr.drew1 | with_reducible apply Rdr.drew | (apply Rdr.setO (ha := by first | omega | (simp; omega)) (hB := by first | omega | (simp; omega))))) (by omega) (by exact lit_any _ _ _ _ (by first | rfl | simp) rfl (by simp)) (by omega) (by first | omega | (simp; omega))).mono ?_
      rintro e w2 ⟨x2, rfl, p2, hr2, hg2⟩
      clear p2
      obtain ⟨hc2, hf2, hz2⟩ := gcell hg2 hH
      (try simp at hz2)
      (try (have ne2_0_0 : ¬ (w2.heap.size = w.heap.size) := by omega)); (try (have nf2_0_0 : ¬ (w.heap.size = w2.heap.size) := by omega))
      (try (have ne2_0_1 : ¬ (w2.heap.size = w.heap.size + 1) := by omega)); (try (have nf2_0_1 : ¬ (w.heap.size + 1 = w2.heap.size) := by omega))
      (try (have ne2_1_0 : ¬ (w2.heap.size = w1.heap.size) := by omega)); (try (have nf2_1_0 : ¬ (w1.heap.size = w2.heap.size) := by omega))
      (try (have ne2_1_1 : ¬ (w2.heap.size = w1.heap.size + 1) := by omega)); (try (have nf2_1_1 : ¬ (w1.heap.size + 1 = w2.heap.size) := by omega))
      (try (have y2 : w.heap.size ≤ w2.heap.size := by omega))
      (try (have y2_1 : w1.heap.size ≤ w2.heap.size := by omega))
      (try (have z2_0_0 : w.heap.size < w2.heap.size := by omega))
      (try (have z2_0_1 : w.heap.size + 1 < w2.heap.size := by omega))
      (try (have z2_0_2 : w.heap.size + 1 + 1 < w2.heap.size := by omega))
      (try (have z2_1_0 : w1.heap.size < w2.heap.size := by omega))
      (try (have z2_1_1 : w1.heap.size + 1 < w2.heap.size := by omega))
      have ho2 := (ho.below ((Below.refl _ _).alloc (Nat.le_refl _) _)).other hg2 (by omega)
      have hgb2 : w.grownBy w2 (some g) := gb_trans (gb_alloc hgb _) hg2
      clear hc2 hf2 ho hgb hg2
      go_wp2_with (at_builtin; refine wpList_append_own_at _ rfl _ _ 23 rfl w.heap.size 3 j0 (.int .i64 0) 1 8 Try.underlying23 ji jz0 jz1 jz2 rfl (by decide) _ (n) _ rfl (World.ownsRow.alloc (show World.ownsRow _ w.heap.size 3 1 _ (n) _ from (ho2).row (Own.at (ho2)).1.symm) _) ⟨_, 0, none⟩ 1 1 [.int .i64 (x2)] rfl rfl (cell_one_at _ _ _ _ (by first | rfl | simp)) (by intro u hu; simp at hu; subst hu; rfl) (by unfold maxLen; omega) (by omega) (by simp; omega) ?_; intro v1 w3 hown1 hgrow1 hnil1 hat1)
      obtain ⟨h', c', rfl, ha, hr3, hgb3⟩ := app_step hr2 hH hB0 ho2 hgb2 hown1 hgrow1
      clear hown1 hgrow1 hnil1 hat1 ho2 hgb2 hr1
      go_wp2
      go_roundw
      case rel => exact ⟨i, n + 1, h', c', m' + 1, zs ++ [x2], by go_num, rfl, by omega, by omega, ha, hr3, hgb3⟩
      case measure => simp [intOf]
    · obtain rfl : j = 0 := by omega
      by_cases hn : 1 < n
      · have i1 : (1 : Int) < (n : Int) := by omega
        go_wp2_with fail
        go_at_call 87
        refine (pick_c (show Rdr _ B g _ by repeat' (first | with_reducible exact hr1 | with_reducible apply Rdr.alloc | with_reducible apply Rdr.drew1 | with_reducible apply Rdr.drew | (apply Rdr.setO (ha := by first | omega | (simp; omega)) (hB := by first | omega | (simp; omega))))) (by omega) _).mono ?_
        rintro e w2 ⟨x2, rfl, ⟨p2, q2⟩, hr2, hg2⟩
        replace q2 := q2 (by omega)
        obtain ⟨hc2, hf2, hz2⟩ := gcell hg2 hH
        (try simp at hz2)
        (try (have ne2_0_0 : ¬ (w2.heap.size = w.heap.size) := by omega)); (try (have nf2_0_0 : ¬ (w.heap.size = w2.heap.size) := by omega))
        (try (have ne2_0_1 : ¬ (w2.heap.size = w.heap.size + 1) := by omega)); (try (have nf2_0_1 : ¬ (w.heap.size + 1 = w2.heap.size) := by omega))
        (try (have ne2_1_0 : ¬ (w2.heap.size = w1.heap.size) := by omega)); (try (have nf2_1_0 : ¬ (w1.heap.size = w2.heap.size) := by omega))
        (try (have ne2_1_1 : ¬ (w2.heap.size = w1.heap.size + 1) := by omega)); (try (have nf2_1_1 : ¬ (w1.heap.size + 1 = w2.heap.size) := by omega))
        (try (have y2 : w.heap.size ≤ w2.heap.size := by omega))
        (try (have y2_1 : w1.heap.size ≤ w2.heap.size := by omega))
        (try (have z2_0_0 : w.heap.size < w2.heap.size := by omega))
        (try (have z2_0_1 : w.heap.size + 1 < w2.heap.size := by omega))
        (try (have z2_0_2 : w.heap.size + 1 + 1 < w2.heap.size := by omega))
        (try (have z2_1_0 : w1.heap.size < w2.heap.size := by omega))
        (try (have z2_1_1 : w1.heap.size + 1 < w2.heap.size := by omega))
        have ho2 := ho.other hg2 (by omega)
        have hgb2 : w.grownBy w2 (some g) := gb_trans hgb hg2
        clear hc2 hf2 ho hgb hg2
        by_cases t0 : x2 = 0
        · subst t0
          have e1 := (own_facts ho2 1).1 hn
          go_wp2_with fail
          go_outline
          go_at_call 58
          refine (one_any (show Rdr _ B g _ by repeat' (first | with_reducible exact hr2 | with_reducible apply Rdr.alloc | with_reducible apply Rdr.drew1 | with_reducible apply Rdr.drew | (apply Rdr.setO (ha := by first | omega | (simp; omega)) (hB := by first | omega | (simp; omega))))) (by omega) (by exact lit_any _ _ _ _ (by first | rfl | simp) rfl (by simp)) (by omega) (by first | omega | (simp; omega))).mono ?_
          rintro e w3 ⟨x3, rfl, p3, hr3, hg3⟩
          clear p3
          obtain ⟨hc3, hf3, hz3⟩ := gcell hg3 hH
          (try simp at hz3)
          (try (have ne3_0_0 : ¬ (w3.heap.size = w.heap.size) := by omega)); (try (have nf3_0_0 : ¬ (w.heap.size = w3.heap.size) := by omega))
          (try (have ne3_0_1 : ¬ (w3.heap.size = w.heap.size + 1) := by omega)); (try (have nf3_0_1 : ¬ (w.heap.size + 1 = w3.heap.size) := by omega))
          (try (have ne3_1_0 : ¬ (w3.heap.size = w1.heap.size) := by omega)); (try (have nf3_1_0 : ¬ (w1.heap.size = w3.heap.size) := by omega))
          (try (have ne3_1_1 : ¬ (w3.heap.size = w1.heap.size + 1) := by omega)); (try (have nf3_1_1 : ¬ (w1.heap.size + 1 = w3.heap.size) := by omega))
          (try (have ne3_2_0 : ¬ (w3.heap.size = w2.heap.size) := by omega)); (try (have nf3_2_0 : ¬ (w2.heap.size = w3.heap.size) := by omega))
          (try (have ne3_2_1 : ¬ (w3.heap.size = w2.heap.size + 1) := by omega)); (try (have nf3_2_1 : ¬ (w2.heap.size + 1 = w3.heap.size) := by omega))
          (try (have y3 : w.heap.size ≤ w3.heap.size := by omega))
          (try (have y3_1 : w1.heap.size ≤ w3.heap.size := by omega))
          (try (have y3_2 : w2.heap.size ≤ w3.heap.size := by omega))
          (try (have z3_0_0 : w.heap.size < w3.heap.size := by omega))
          (try (have z3_0_1 : w.heap.size + 1 < w3.heap.size := by omega))
          (try (have z3_0_2 : w.heap.size + 1 + 1 < w3.heap.size := by omega))
          (try (have z3_1_0 : w1.heap.size < w3.heap.size := by omega))
          (try (have z3_1_1 : w1.heap.size + 1 < w3.heap.size := by omega))
          (try (have z3_2_0 : w2.heap.size < w3.heap.size := by omega))
          (try (have z3_2_1 : w2.heap.size + 1 < w3.heap.size := by omega))
          have ho3 := (ho2.below ((Below.refl _ _).alloc (Nat.le_refl _) _)).other hg3 (by omega)
          have hgb3 : w.grownBy w3 (some g) := gb_trans (gb_alloc hgb2 _) hg3
          clear hc3 hf3 ho2 hgb2 hg3
          have f1 := (own_facts ho3 0).1 (by omega)
          have f2 := (own_facts ho3 0).2
          have ho4 := own_set ho3 0 x3
          have hr4 : Rdr (w3.setCell ⟨h, 0, none⟩ (.int .i64 x3)) B g (m + 60) := (Rdr.setO hr3 (by omega) (by omega) _).mono (by omega)
          have hgb4 := gb_set hgb3 hhw (.int .i64 x3) (i := 0)
          go_wp2_with fail
          go_ret
          exact ⟨h, n, c, _, rfl, ho4, by omega, hr4, hgb4⟩
        · have t0' : (x2 == 0) = false := by simpa using t0
          go_wp2_with fail
          go_ret
          exact ⟨h, n, c, zs, rfl, ho2, by omega, hr2.mono (by omega), hgb2⟩
      · have i1 : ¬ (1 : Int) < (n : Int) := by omega
        have i2 : decide ((1 : Int) < (n : Int)) = false := decide_eq_false i1
        go_wp2_with fail
        go_ret
        exact ⟨h, n, c, zs, rfl, ho, by omega, hr2.mono (by omega), hgb⟩
end Go.Proofs.Ytddpjgcodnfbjaa
