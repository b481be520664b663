/- DrawBalanceRack of spec, equalBools and highest of the laws; no statement is proved here. -/
import Derived.Test.YtimfabpigpcjhaaGenI
import Derived.Test.YtimfabpigpcjhaaDrawI
import Derived.Test.YtimfabpigpcjhaaBoo
namespace Go.Proofs.Ytimfabpigpcjhaa
open Go.ChangeShapes Go.WideShapes Go.ChangeAt Go.RowKit
set_option linter.unusedVariables false
set_option linter.unusedSimpArgs false

/-- what an append of one int to a row of the call's own leaves, beside a reader of the call's own -/
theorem app_step2 {w wq w1 : World} {B g m h n c : Nat} {zs : List Int} {v1 : Value} {x : Int} {o : Obj} (hr : Rdr wq B g m) (hhg : h ≠ g) (hB : B ≤ w.heap.size) (hbq : Below w.heap.size w wq)
    (ho : Own wq w.heap.size 3 (.slice (some ⟨h, 0, none⟩) n c) zs)
    (h1 : w1.ownsRow w.heap.size 3 1 v1 (n + 1) (zs.map (Value.int .i64) ++ [.int .i64 x])) (h2 : (wq.alloc o).grownBy w1 (some h)) (h4 : v1.ownBlock = some h ∨ v1.ownBlock = some (wq.alloc o).heap.size) :
    ∃ h' c', v1 = .slice (some ⟨h', 0, none⟩) (n + 1) c' ∧ Own w1 w.heap.size 3 (.slice (some ⟨h', 0, none⟩) (n + 1) c') (zs ++ [x]) ∧ Rdr w1 B g m ∧ Below w.heap.size w w1 ∧ h' ≠ g := by
  have hl := (Own.at ho).1
  have hh := (Own.at ho).2.1
  subst hl
  have ha := own_app h1
  obtain ⟨g1, c1, rfl⟩ := own_app_form ha rfl
  refine ⟨g1, c1, rfl, ha, ?_, ?_, ?_⟩
  · exact (hr.alloc o).grown h2 (by intro e; injection e with e; exact hhg e.symm) (fun r hr => by cases hr; omega)
  · exact (hbq.alloc hbq.size o).grown h2 (by have := hbq.size; simp; omega) (fun k hk => by cases hk; exact hh)
  · have hg := hr.lt
    rcases h4 with h4 | h4
    · injection h4 with h4; have h4' : g1 = h := h4; rw [h4']; exact hhg
    · injection h4 with h4; have h4' : g1 = (wq.alloc o).heap.size := h4; rw [h4']; simp; omega
set_option maxHeartbeats 2000000 in
theorem DrawBalanceRack_c {w : World} {v : Value} (hv : BSl w v) : Calls Try.prog 37 #[v] w (DrL 10 w) := by
  obtain ⟨B, hB0, hv⟩ : ∃ B, B ≤ w.heap.size ∧ BSlB w B v := ⟨w.heap.size, Nat.le_refl _, hv⟩
  have hv' := hv
  obtain ⟨p, n, cap, rfl, _⟩ := hv'
  obtain ⟨j0, ji, jz0, jz1, jz2⟩ := info_parts Try.infoInt
  go_enter Try.func37, Try.ntmps37
  go_wp2_with fail
  go_at_call 42
  refine (newReader_c _ _ B (hv.below (by (repeat' (first | exact Below.refl _ _ | refine Below.alloc ?_ ?_ _ | refine Below.setCell ?_ ?_ _ | refine Below.drew ?_ | refine below_drewN ?_ _ | refine Below.trans ?_ (Below.mono (by assumption) ?_))) <;> (try first | omega | (simp; done) | (simp at *; omega))) hB0) (by first | omega | (simp; omega))).mono ?_
  rintro e w1 ⟨g, rfl, hr1, hL, hb1⟩
  have hH := hr1.lt
  have hB := hr1.ge
  obtain ⟨hc1, hf1, -, hz1⟩ := bcell hb1
  (try simp at hz1)
  (try simp at hL)
  have y1 : w.heap.size ≤ w1.heap.size := by omega
  (try (have z1_0 : w.heap.size < w1.heap.size := by omega))
  (try (have z1_1 : w.heap.size + 1 < w1.heap.size := by omega))
  go_wp2_with fail
  have hgw : w.heap.size ≤ g := by omega
  have hbw1 : Below w.heap.size w w1 := (by repeat' (first | with_reducible exact Below.refl _ _ | with_reducible refine Below.alloc ?_ (by first | omega | (simp; done) | (simp; omega)) _ | with_reducible refine Below.drew ?_ | with_reducible refine below_drewN ?_ _ | with_reducible refine Below.setCell ?_ (by first | omega | (simp; done) | (simp; omega)) _ | with_reducible refine Below.grown ?_ (by assumption) (by first | omega | (simp; done) | (simp; omega)) (by intro k hk; cases hk; omega) | with_reducible refine Below.trans ?_ (Below.mono (by assumption) (by first | omega | (simp; done) | (simp; omega)))))
  have ho0 : Own (w1.alloc (.cells #[] 3)) w.heap.size 3 (.slice (some ⟨w1.heap.size, 0, none⟩) 0 0) [] := own_empty w1 w.heap.size (by omega)
  go_at_call 44
  refine (one_c (zs := [4, 5, 3, 6, 0, 1, 7, 8]) (show Rdr _ B g _ by repeat' (first | with_reducible exact hr1 | with_reducible apply Rdr.alloc | with_reducible apply Rdr.drew1 | with_reducible apply Rdr.drew | (apply Rdr.setO (ha := by first | omega | (simp; omega)) (hB := by first | omega | (simp; omega))))) (by omega) (by exact lit_at _ [4, 5, 3, 6, 0, 1, 7, 8] 8 _ rfl (by omega) (by first | rfl | simp)) (by omega) (by first | omega | (simp; omega))).mono ?_
  rintro e w2 ⟨x2, rfl, p2, hr2, hg2⟩
  have q2 : 0 ≤ x2 ∧ x2 ≤ 8 := by simp at p2; omega
  clear p2
  obtain ⟨q2a, q2b⟩ := q2
  obtain ⟨hc2, hf2, hz2⟩ := gcell hg2 hH
  (try simp at hz2)
  (try (have ne2_0_0 : ¬ (w2.heap.size = w.heap.size) := by omega)); (try (have nf2_0_0 : ¬ (w.heap.size = w2.heap.size) := by omega))
  (try (have ne2_0_1 : ¬ (w2.heap.size = w.heap.size + 1) := by omega)); (try (have nf2_0_1 : ¬ (w.heap.size + 1 = w2.heap.size) := by omega))
  (try (have ne2_1_0 : ¬ (w2.heap.size = w1.heap.size) := by omega)); (try (have nf2_1_0 : ¬ (w1.heap.size = w2.heap.size) := by omega))
  (try (have ne2_1_1 : ¬ (w2.heap.size = w1.heap.size + 1) := by omega)); (try (have nf2_1_1 : ¬ (w1.heap.size + 1 = w2.heap.size) := by omega))
  (try (have y2 : w.heap.size ≤ w2.heap.size := by omega))
  (try (have y2_1 : w1.heap.size ≤ w2.heap.size := by omega))
  (try (have z2_0_0 : w.heap.size < w2.heap.size := by omega))
  (try (have z2_0_1 : w.heap.size + 1 < w2.heap.size := by omega))
  (try (have z2_0_2 : w.heap.size + 1 + 1 < w2.heap.size := by omega))
  (try (have z2_1_0 : w1.heap.size < w2.heap.size := by omega))
  (try (have z2_1_1 : w1.heap.size + 1 < w2.heap.size := by omega))
  go_wp2_with fail
  have ho2 := (ho0.below ((Below.refl _ _).alloc (Nat.le_refl _) _)).other hg2 (by omega)
  have hbw2 : Below w.heap.size w w2 := (by repeat' (first | with_reducible exact Below.refl _ _ | with_reducible refine Below.alloc ?_ (by first | omega | (simp; done) | (simp; omega)) _ | with_reducible refine Below.drew ?_ | with_reducible refine below_drewN ?_ _ | with_reducible refine Below.setCell ?_ (by first | omega | (simp; done) | (simp; omega)) _ | with_reducible refine Below.grown ?_ (by assumption) (by first | omega | (simp; done) | (simp; omega)) (by intro k hk; cases hk; omega) | with_reducible refine Below.trans ?_ (Below.mono (by assumption) (by first | omega | (simp; done) | (simp; omega)))))
  have hg1w : w1.heap.size ≠ g := by omega
  obtain ⟨x, rfl⟩ : ∃ x : Nat, x2 = x := ⟨x2.toNat, by omega⟩
  have hgs : g < w1.heap.size := hH
  clear hc1 hf1 hc2 hf2 ho0 hb1 hr1
  go_loopw [4, 5] (fun o k wr => ∃ j n h c m' : Nat, ∃ zs, k = .int .i64 j ∧ o = .slice (some ⟨h, 0, none⟩) n c ∧ n + j ≤ 10 ∧ m' + 2 * j ≤ 900 ∧ Own wr w.heap.size 3 (.slice (some ⟨h, 0, none⟩) n c) zs ∧ h ≠ g ∧ Rdr wr B g m' ∧ Below w.heap.size w wr) (fun _ k _ => (intOf k).toNat)
  case atStart => exact ⟨x, 0, w1.heap.size, 0, _, [], rfl, rfl, by omega, by omega, ho2, hg1w, hr2, hbw2⟩
  case round =>
    obtain ⟨j, n, h, c, m', zs, rfl, rfl, hnj, hmj, ho, hhg, hr3, hbr⟩ := hrel
    clear ho2 hr2 hg2 hbw2 hbw1
    have hr2 := hr3
    have hhw := (Own.at ho).2.1
    have hhl := (Own.at ho).2.2.1
    have hsz := hbr.size
    have hB1 : B ≤ w.heap.size := hB0
    have hgr : g < wr.heap.size := hr2.lt
    by_cases hj : 0 < j
    · obtain ⟨i, rfl⟩ : ∃ i, j = i + 1 := ⟨j - 1, by omega⟩
      have i1 : (0 : Int) < ((i + 1 : Nat) : Int) := by omega
      go_wp2_with fail
      go_at_call 45
      refine (pick_c (show Rdr _ B g _ by repeat' (first | with_reducible exact hr2 | with_reducible apply Rdr.alloc | with_reducible apply Rdr.drew1 | with_reducible apply Rdr.drew | (apply Rdr.setO (ha := by first | omega | (simp; omega)) (hB := by first | omega | (simp; omega))))) (by omega) _).mono ?_
      rintro e w3 ⟨x3, rfl, ⟨p3, q3⟩, hr3, hg3⟩
      replace q3 := q3 (by omega)
      obtain ⟨hc3, hf3, hz3⟩ := gcell hg3 hH
      (try simp at hz3)
      (try (have ne3_0_0 : ¬ (w3.heap.size = w.heap.size) := by omega)); (try (have nf3_0_0 : ¬ (w.heap.size = w3.heap.size) := by omega))
      (try (have ne3_0_1 : ¬ (w3.heap.size = w.heap.size + 1) := by omega)); (try (have nf3_0_1 : ¬ (w.heap.size + 1 = w3.heap.size) := by omega))
      (try (have ne3_1_0 : ¬ (w3.heap.size = w1.heap.size) := by omega)); (try (have nf3_1_0 : ¬ (w1.heap.size = w3.heap.size) := by omega))
      (try (have ne3_1_1 : ¬ (w3.heap.size = w1.heap.size + 1) := by omega)); (try (have nf3_1_1 : ¬ (w1.heap.size + 1 = w3.heap.size) := by omega))
      (try (have ne3_2_0 : ¬ (w3.heap.size = w2.heap.size) := by omega)); (try (have nf3_2_0 : ¬ (w2.heap.size = w3.heap.size) := by omega))
      (try (have ne3_2_1 : ¬ (w3.heap.size = w2.heap.size + 1) := by omega)); (try (have nf3_2_1 : ¬ (w2.heap.size + 1 = w3.heap.size) := by omega))
      (try (have y3 : w.heap.size ≤ w3.heap.size := by omega))
      (try (have y3_1 : w1.heap.size ≤ w3.heap.size := by omega))
      (try (have y3_2 : w2.heap.size ≤ w3.heap.size := by omega))
      (try (have z3_0_0 : w.heap.size < w3.heap.size := by omega))
      (try (have z3_0_1 : w.heap.size + 1 < w3.heap.size := by omega))
      (try (have z3_0_2 : w.heap.size + 1 + 1 < w3.heap.size := by omega))
      (try (have z3_1_0 : w1.heap.size < w3.heap.size := by omega))
      (try (have z3_1_1 : w1.heap.size + 1 < w3.heap.size := by omega))
      (try (have z3_2_0 : w2.heap.size < w3.heap.size := by omega))
      (try (have z3_2_1 : w2.heap.size + 1 < w3.heap.size := by omega))
      have ho3 := ho.other hg3 hhg
      have hbr3 : Below w.heap.size w w3 := hbr.grown hg3 hbr.size (fun k hk => by cases hk; exact hgw)
      clear hc3 hf3 ho hbr
      go_wp2_with fail
      go_at_call 44
      refine (one_any (show Rdr _ B g _ by repeat' (first | with_reducible exact hr3 | with_reducible apply Rdr.alloc | with_reducible apply Rdr.drew1 | with_reducible apply Rdr.drew | (apply Rdr.setO (ha := by first | omega | (simp; omega)) (hB := by first | omega | (simp; omega))))) (by omega) (by exact lit_any _ _ _ _ (by first | rfl | simp) rfl (by simp)) (by omega) (by first | omega | (simp; omega))).mono ?_
      rintro e w4 ⟨x4, rfl, p4, hr4, hg4⟩
      clear p4
      obtain ⟨hc4, hf4, hz4⟩ := gcell hg4 hH
      (try simp at hz4)
      (try (have ne4_0_0 : ¬ (w4.heap.size = w.heap.size) := by omega)); (try (have nf4_0_0 : ¬ (w.heap.size = w4.heap.size) := by omega))
      (try (have ne4_0_1 : ¬ (w4.heap.size = w.heap.size + 1) := by omega)); (try (have nf4_0_1 : ¬ (w.heap.size + 1 = w4.heap.size) := by omega))
      (try (have ne4_1_0 : ¬ (w4.heap.size = w1.heap.size) := by omega)); (try (have nf4_1_0 : ¬ (w1.heap.size = w4.heap.size) := by omega))
      (try (have ne4_1_1 : ¬ (w4.heap.size = w1.heap.size + 1) := by omega)); (try (have nf4_1_1 : ¬ (w1.heap.size + 1 = w4.heap.size) := by omega))
      (try (have ne4_2_0 : ¬ (w4.heap.size = w2.heap.size) := by omega)); (try (have nf4_2_0 : ¬ (w2.heap.size = w4.heap.size) := by omega))
      (try (have ne4_2_1 : ¬ (w4.heap.size = w2.heap.size + 1) := by omega)); (try (have nf4_2_1 : ¬ (w2.heap.size + 1 = w4.heap.size) := by omega))
      (try (have ne4_3_0 : ¬ (w4.heap.size = w3.heap.size) := by omega)); (try (have nf4_3_0 : ¬ (w3.heap.size = w4.heap.size) := by omega))
      (try (have ne4_3_1 : ¬ (w4.heap.size = w3.heap.size + 1) := by omega)); (try (have nf4_3_1 : ¬ (w3.heap.size + 1 = w4.heap.size) := by omega))
      (try (have y4 : w.heap.size ≤ w4.heap.size := by omega))
      (try (have y4_1 : w1.heap.size ≤ w4.heap.size := by omega))
      (try (have y4_2 : w2.heap.size ≤ w4.heap.size := by omega))
      (try (have y4_3 : w3.heap.size ≤ w4.heap.size := by omega))
      (try (have z4_0_0 : w.heap.size < w4.heap.size := by omega))
      (try (have z4_0_1 : w.heap.size + 1 < w4.heap.size := by omega))
      (try (have z4_0_2 : w.heap.size + 1 + 1 < w4.heap.size := by omega))
      (try (have z4_1_0 : w1.heap.size < w4.heap.size := by omega))
      (try (have z4_1_1 : w1.heap.size + 1 < w4.heap.size := by omega))
      (try (have z4_2_0 : w2.heap.size < w4.heap.size := by omega))
      (try (have z4_2_1 : w2.heap.size + 1 < w4.heap.size := by omega))
      (try (have z4_3_0 : w3.heap.size < w4.heap.size := by omega))
      (try (have z4_3_1 : w3.heap.size + 1 < w4.heap.size := by omega))
      have hs3 := hbr3.size
      have ho4 := (ho3.below ((Below.refl _ _).alloc (Nat.le_refl _) _)).other hg4 hhg
      have hbr4 : Below w.heap.size w w4 := (hbr3.alloc hs3 _).grown hg4 (by simp; omega) (fun k hk => by cases hk; exact hgw)
      have hs4 := hbr4.size
      clear hc4 hf4 ho3 hg3 hg4 hbr3
      go_wp2_with (at_builtin; refine wpList_append_own_at _ rfl _ _ 45 rfl w.heap.size 3 j0 (.int .i64 0) 1 8 Try.underlying45 ji jz0 jz1 jz2 rfl (by decide) _ (n) _ rfl (World.ownsRow.alloc (show World.ownsRow _ w.heap.size 3 1 _ (n) _ from (ho4).row (Own.at (ho4)).1.symm) _) ⟨_, 0, none⟩ 1 1 [.int .i64 (x4)] rfl rfl (cell_one_at _ _ _ _ (by first | rfl | simp)) (by intro u hu; simp at hu; subst hu; rfl) (by unfold maxLen; omega) (by omega) (by simp; omega) ?_; intro v1 w5 hown1 hgrow1 hnil1 hat1)
      obtain ⟨h', c', rfl, ha, hr5, hbr5, hhg5⟩ := app_step2 hr4 hhg hB0 hbr4 ho4 hown1 hgrow1 hat1
      clear hown1 hgrow1 hnil1 hat1 ho4 hbr4 hr4 hr3 hr2
      go_wp2
      go_roundw
      case rel => exact ⟨i, n + 1, h', c', m' + 2, zs ++ [x4], by go_num, rfl, by omega, by omega, ha, hhg5, hr5, hbr5⟩
      case measure => simp [intOf]
    · obtain rfl : j = 0 := by omega
      by_cases hn : 0 < n
      · have i1 : (0 : Int) < (n : Int) := by omega
        go_wp2_with fail
        go_at_call 45
        refine (pick_c (show Rdr _ B g _ by repeat' (first | with_reducible exact hr2 | with_reducible apply Rdr.alloc | with_reducible apply Rdr.drew1 | with_reducible apply Rdr.drew | (apply Rdr.setO (ha := by first | omega | (simp; omega)) (hB := by first | omega | (simp; omega))))) (by omega) _).mono ?_
        rintro e w3 ⟨x3, rfl, ⟨p3, q3⟩, hr3, hg3⟩
        replace q3 := q3 (by omega)
        obtain ⟨hc3, hf3, hz3⟩ := gcell hg3 hH
        (try simp at hz3)
        (try (have ne3_0_0 : ¬ (w3.heap.size = w.heap.size) := by omega)); (try (have nf3_0_0 : ¬ (w.heap.size = w3.heap.size) := by omega))
        (try (have ne3_0_1 : ¬ (w3.heap.size = w.heap.size + 1) := by omega)); (try (have nf3_0_1 : ¬ (w.heap.size + 1 = w3.heap.size) := by omega))
        (try (have ne3_1_0 : ¬ (w3.heap.size = w1.heap.size) := by omega)); (try (have nf3_1_0 : ¬ (w1.heap.size = w3.heap.size) := by omega))
        (try (have ne3_1_1 : ¬ (w3.heap.size = w1.heap.size + 1) := by omega)); (try (have nf3_1_1 : ¬ (w1.heap.size + 1 = w3.heap.size) := by omega))
        (try (have ne3_2_0 : ¬ (w3.heap.size = w2.heap.size) := by omega)); (try (have nf3_2_0 : ¬ (w2.heap.size = w3.heap.size) := by omega))
        (try (have ne3_2_1 : ¬ (w3.heap.size = w2.heap.size + 1) := by omega)); (try (have nf3_2_1 : ¬ (w2.heap.size + 1 = w3.heap.size) := by omega))
        (try (have y3 : w.heap.size ≤ w3.heap.size := by omega))
        (try (have y3_1 : w1.heap.size ≤ w3.heap.size := by omega))
        (try (have y3_2 : w2.heap.size ≤ w3.heap.size := by omega))
        (try (have z3_0_0 : w.heap.size < w3.heap.size := by omega))
        (try (have z3_0_1 : w.heap.size + 1 < w3.heap.size := by omega))
        (try (have z3_0_2 : w.heap.size + 1 + 1 < w3.heap.size := by omega))
        (try (have z3_1_0 : w1.heap.size < w3.heap.size := by omega))
        (try (have z3_1_1 : w1.heap.size + 1 < w3.heap.size := by omega))
        (try (have z3_2_0 : w2.heap.size < w3.heap.size := by omega))
        (try (have z3_2_1 : w2.heap.size + 1 < w3.heap.size := by omega))
        have ho3 := ho.other hg3 hhg
        have hbr3 : Below w.heap.size w w3 := hbr.grown hg3 hbr.size (fun k hk => by cases hk; exact hgw)
        have hs3 := hbr3.size
        clear hc3 hf3 ho hbr
        by_cases t0 : x3 = 0
        · subst t0
          go_wp2_with fail
          go_at_call 44
          refine (one_c (zs := [0, 1001]) (show Rdr _ B g _ by repeat' (first | with_reducible exact hr3 | with_reducible apply Rdr.alloc | with_reducible apply Rdr.drew1 | with_reducible apply Rdr.drew | (apply Rdr.setO (ha := by first | omega | (simp; omega)) (hB := by first | omega | (simp; omega))))) (by omega) (by exact lit_at _ [0, 1001] 2 _ rfl (by omega) (by first | rfl | simp)) (by omega) (by first | omega | (simp; omega))).mono ?_
          rintro e w4 ⟨x4, rfl, p4, hr4, hg4⟩
          clear p4
          obtain ⟨hc4, hf4, hz4⟩ := gcell hg4 hH
          (try simp at hz4)
          (try (have ne4_0_0 : ¬ (w4.heap.size = w.heap.size) := by omega)); (try (have nf4_0_0 : ¬ (w.heap.size = w4.heap.size) := by omega))
          (try (have ne4_0_1 : ¬ (w4.heap.size = w.heap.size + 1) := by omega)); (try (have nf4_0_1 : ¬ (w.heap.size + 1 = w4.heap.size) := by omega))
          (try (have ne4_1_0 : ¬ (w4.heap.size = w1.heap.size) := by omega)); (try (have nf4_1_0 : ¬ (w1.heap.size = w4.heap.size) := by omega))
          (try (have ne4_1_1 : ¬ (w4.heap.size = w1.heap.size + 1) := by omega)); (try (have nf4_1_1 : ¬ (w1.heap.size + 1 = w4.heap.size) := by omega))
          (try (have ne4_2_0 : ¬ (w4.heap.size = w2.heap.size) := by omega)); (try (have nf4_2_0 : ¬ (w2.heap.size = w4.heap.size) := by omega))
          (try (have ne4_2_1 : ¬ (w4.heap.size = w2.heap.size + 1) := by omega)); (try (have nf4_2_1 : ¬ (w2.heap.size + 1 = w4.heap.size) := by omega))
          (try (have ne4_3_0 : ¬ (w4.heap.size = w3.heap.size) := by omega)); (try (have nf4_3_0 : ¬ (w3.heap.size = w4.heap.size) := by omega))
          (try (have ne4_3_1 : ¬ (w4.heap.size = w3.heap.size + 1) := by omega)); (try (have nf4_3_1 : ¬ (w3.heap.size + 1 = w4.heap.size) := by omega))
          (try (have y4 : w.heap.size ≤ w4.heap.size := by omega))
          (try (have y4_1 : w1.heap.size ≤ w4.heap.size := by omega))
          (try (have y4_2 : w2.heap.size ≤ w4.heap.size := by omega))
          (try (have y4_3 : w3.heap.size ≤ w4.heap.size := by omega))
          (try (have z4_0_0 : w.heap.size < w4.heap.size := by omega))
          (try (have z4_0_1 : w.heap.size + 1 < w4.heap.size := by omega))
          (try (have z4_0_2 : w.heap.size + 1 + 1 < w4.heap.size := by omega))
          (try (have z4_1_0 : w1.heap.size < w4.heap.size := by omega))
          (try (have z4_1_1 : w1.heap.size + 1 < w4.heap.size := by omega))
          (try (have z4_2_0 : w2.heap.size < w4.heap.size := by omega))
          (try (have z4_2_1 : w2.heap.size + 1 < w4.heap.size := by omega))
          (try (have z4_3_0 : w3.heap.size < w4.heap.size := by omega))
          (try (have z4_3_1 : w3.heap.size + 1 < w4.heap.size := by omega))
          have ho4 := (ho3.below ((Below.refl _ _).alloc (Nat.le_refl _) _)).other hg4 hhg
          have hbr4 : Below w.heap.size w w4 := (hbr3.alloc hs3 _).grown hg4 (by simp; omega) (fun k hk => by cases hk; exact hgw)
          clear hc4 hf4 ho3 hbr3
          have f1 := (own_facts ho4 0).1 hn
          have f2 := (own_facts ho4 0).2
          have ho5 := own_set ho4 0 x4
          have hbr5 := hbr4.setCell (p := ⟨h, 0, none⟩) hhw (.int .i64 x4)
          go_wp2_with fail
          go_ret
          exact ⟨h, n, c, _, rfl, ho5, by omega, hbr5⟩
        · have t0' : (x3 == 0) = false := by simpa using t0
          go_wp2_with fail
          go_ret
          exact ⟨h, n, c, zs, rfl, ho3, by omega, hbr3⟩
      · obtain rfl : n = 0 := by omega
        go_wp2_with fail
        go_ret
        exact ⟨h, 0, c, zs, rfl, ho, by omega, hbr⟩
theorem highest_s {b off n cap : Nat} {zs : List Int} {w : World} (h : Sl w b off n cap zs) :
    Calls Try.prog 39 #[.slice (some ⟨b, off, none⟩) n cap] w fun e w' => (∃ M, e = .returned (.int .i64 M) ∧ 0 ≤ M ∧ ∀ i, i < n → el zs i ≤ M) ∧ w = w' := by
  have hsm := h.small
  go_enter Try.func39, Try.ntmps39
  go_wp2_with fail
  go_loop [3, 4] (fun c i => ∃ k : Nat, ∃ M : Int, k ≤ n ∧ i = .int .i64 k ∧ c = .int .i64 M ∧ Hid (0 ≤ M ∧ ∀ i, i < k → el zs i ≤ M)) (fun _ i => n - (intOf i).toNat)
  case atStart => exact ⟨0, 0, Nat.zero_le _, rfl, rfl, by omega, fun i hi => by omega⟩
  case round =>
    obtain ⟨k, M, hk, rfl, rfl, HM⟩ := hrel
    by_cases hlt : k < n
    · have i1 : (0 : Int) ≤ (k : Int) := by omega
      have i2 : (k : Int) < (n : Int) := by omega
      have c1 := h.cell hlt
      by_cases hx : M < el zs k
      · have hok : Hid (0 ≤ el zs k ∧ ∀ i, i < k + 1 → el zs i ≤ el zs k) := ⟨by have := HM.out.1; omega, fun i hi => by
          rcases Nat.lt_succ_iff_lt_or_eq.1 hi with e | e
          · have := HM.out.2 i e; omega
          · subst e; exact Int.le_refl _⟩
        go_wp2
        go_round
        case rel => exact ⟨k + 1, el zs k, by omega, by go_num, rfl, hok⟩
        case measure => simp [intOf]; omega
      · have hok : Hid (0 ≤ M ∧ ∀ i, i < k + 1 → el zs i ≤ M) := ⟨HM.out.1, fun i hi => by
          rcases Nat.lt_succ_iff_lt_or_eq.1 hi with e | e
          · exact HM.out.2 i e
          · subst e; omega⟩
        go_wp2
        go_round
        case rel => exact ⟨k + 1, M, by omega, by go_num, rfl, hok⟩
        case measure => simp [intOf]; omega
    · have hkn := mkhid (show k = n by omega)
      have hfin : Hid (∀ i, i < n → el zs i ≤ M) := hkn.out ▸ HM.out.2
      go_wp2
      go_ret
      exact ⟨⟨M, rfl, HM.out.1, hfin.out⟩, rfl⟩
end Go.Proofs.Ytimfabpigpcjhaa
