/- anyPiece and DrawValidPiece of spec; no statement is proved here. -/
import Derived.Test.YtjanjaabcinkiaaFlw
namespace Go.Proofs.Ytjanjaabcinkiaa
open Go.ChangeShapes Go.WideShapes Go.ChangeAt Go.RowKit Go.Deep
set_option linter.unusedVariables false
set_option linter.unusedSimpArgs false

theorem OFl.form {w : World} {B : Nat} {v : Value} {bs : List Fl} (h : OFl w B v bs) : ∃ p c, v = .slice p bs.length c := by
  rcases h with ⟨rfl, rfl⟩ | ⟨g, c, rfl, h⟩
  · exact ⟨none, 0, rfl⟩
  · exact ⟨_, c, rfl⟩
theorem PcAt.new (W : World) (E : TypeId) (l x y : Int) (v : Value) : PcAt (W.alloc (.cells #[(.int .i64 l), (.int .i64 x), (.int .i64 y), v] E)) W.heap.size l x y v :=
  ⟨by simp, by go_simp, by go_simp, by go_simp, by go_simp, fun o => by go_simp⟩
theorem ne_of_at {v v' : Value} {g5 P S : Nat} (hat : v'.ownBlock = v.ownBlock ∨ v'.ownBlock = some S) (hv : v'.ownBlock = some g5) (h1 : ∀ k, v.ownBlock = some k → k < P) (h2 : P < S) : g5 ≠ P := by
  rw [hv] at hat
  rcases hat with e | e
  · have := h1 g5 e.symm; omega
  · injection e with e; omega
theorem PcAt.gO {W w1 : World} {P : Nat} {r : Option Nat} {l x y : Int} {v : Value} (h : PcAt W P l x y v) (hg : W.grownBy w1 r) (hne : r ≠ some P) : PcAt w1 P l x y v := by
  have hb := hg.block P h.lt (fun e => hne e.symm)
  have hc : ∀ o, w1.cell? ⟨P, o, none⟩ = W.cell? ⟨P, o, none⟩ := fun o => World.cell?_of_block (a := ⟨P, o, none⟩) hb
  have hf : ∀ o, w1.frozen? ⟨P, o, none⟩ = W.frozen? ⟨P, o, none⟩ := fun o => World.frozen?_of_block (a := ⟨P, o, none⟩) hb
  exact ⟨Nat.lt_of_lt_of_le h.lt hg.size, (hc 0).trans h.c0, (hc 1).trans h.c1, (hc 2).trans h.c2, (hc 3).trans h.c3, fun o => (hf o).trans (h.fr o)⟩
set_option maxRecDepth 100000 in
set_option maxHeartbeats 2000000 in
theorem anyPiece_c {w : World} {B g m : Nat} (hr : Rdr w B g m) (hm : m ≤ 600000) :
    Calls Try.prog 82 #[.pointer (some ⟨g, 0, none⟩)] w (PkC (fun l x y => 0 ≤ l ∧ l ≤ 10000 ∧ 0 ≤ x ∧ x ≤ 201 ∧ 6 ≤ y ∧ y ≤ 24) 4 B g (m + 60) w) := by
  obtain ⟨i0, hi, iz0, iz1, iz2⟩ := info_parts infoBox
  have hH := hr.lt
  have hB := hr.ge
  have hB0 : B ≤ w.heap.size := by omega
  have hr0 := hr
  go_enter Try.func82, Try.ntmps82
  go_wp2_with fail
  go_at_call 97
  refine (pick_c (show Rdr _ B g _ by repeat' (first | with_reducible exact hr0 | with_reducible apply Rdr.alloc | with_reducible apply Rdr.drew1 | with_reducible apply Rdr.drew | (apply Rdr.setO (ha := by first | omega | (simp; omega)) (hB := by first | omega | (simp; omega))))) (by omega) _).mono ?_
  rintro e w1 ⟨x1, rfl, ⟨p1, q1⟩, hr1, hg1⟩
  replace q1 := q1 (by omega)
  obtain ⟨hc1, hf1, hz1⟩ := gcell hg1 hH
  (try simp at hz1)
  (try (have ne1_0_0 : ¬ (w1.heap.size = w.heap.size) := by omega)); (try (have nf1_0_0 : ¬ (w.heap.size = w1.heap.size) := by omega))
  (try (have ne1_0_1 : ¬ (w1.heap.size = w.heap.size + 1) := by omega)); (try (have nf1_0_1 : ¬ (w.heap.size + 1 = w1.heap.size) := by omega))
  (try (have y1 : w.heap.size ≤ w1.heap.size := by omega))
  (try (have z1_0_0 : w.heap.size < w1.heap.size := by omega))
  (try (have z1_0_1 : w.heap.size + 1 < w1.heap.size := by omega))
  (try (have z1_0_2 : w.heap.size + 1 + 1 < w1.heap.size := by omega))
  have b1 : PcAt w1 w.heap.size 0 0 0 (.slice none 0 0) := ⟨by omega, by go_simp, by go_simp, by go_simp, by go_simp, fun o => by go_simp⟩
  have hgb1 : w.grownBy w1 (some g) := (by repeat' (first | with_reducible exact World.grownBy.refl _ _ | with_reducible refine gb_alloc ?_ _ | with_reducible refine gb_set ?_ (by first | omega | (simp; omega)) _ | with_reducible refine gb_drewN ?_ _ | with_reducible refine gb_drew1 ?_ | with_reducible refine gb_trans ?_ (by assumption)))
  clear hc1 hf1 hg1
  go_wp2_with fail
  go_at_call 99
  refine (somePiece_c (show Rdr _ B g _ by repeat' (first | with_reducible exact hr1 | with_reducible apply Rdr.alloc | with_reducible apply Rdr.drew1 | with_reducible apply Rdr.drew | (apply Rdr.setO (ha := by first | omega | (simp; omega)) (hB := by first | omega | (simp; omega))))) (by omega) _).mono ?_
  rintro e w2 ⟨l, x, y, v, bs, rfl, ho, hk, ⟨el, ex1, ex2, ey1, ey2⟩, hr2, hg2⟩
  obtain ⟨hc2, hf2, hz2⟩ := gcell hg2 hH
  (try simp at hz2)
  (try (have ne2_0_0 : ¬ (w2.heap.size = w.heap.size) := by omega)); (try (have nf2_0_0 : ¬ (w.heap.size = w2.heap.size) := by omega))
  (try (have ne2_0_1 : ¬ (w2.heap.size = w.heap.size + 1) := by omega)); (try (have nf2_0_1 : ¬ (w.heap.size + 1 = w2.heap.size) := by omega))
  (try (have ne2_1_0 : ¬ (w2.heap.size = w1.heap.size) := by omega)); (try (have nf2_1_0 : ¬ (w1.heap.size = w2.heap.size) := by omega))
  (try (have ne2_1_1 : ¬ (w2.heap.size = w1.heap.size + 1) := by omega)); (try (have nf2_1_1 : ¬ (w1.heap.size + 1 = w2.heap.size) := by omega))
  (try (have y2 : w.heap.size ≤ w2.heap.size := by omega))
  (try (have y2_1 : w1.heap.size ≤ w2.heap.size := by omega))
  (try (have z2_0_0 : w.heap.size < w2.heap.size := by omega))
  (try (have z2_0_1 : w.heap.size + 1 < w2.heap.size := by omega))
  (try (have z2_0_2 : w.heap.size + 1 + 1 < w2.heap.size := by omega))
  (try (have z2_1_0 : w1.heap.size < w2.heap.size := by omega))
  (try (have z2_1_1 : w1.heap.size + 1 < w2.heap.size := by omega))
  have b2 := b1.g hg2 (by omega)
  have hgb2 : w.grownBy w2 (some g) := gb_trans hgb1 hg2
  have hl1 : 1 ≤ l ∧ l ≤ 30 := by omega
  obtain ⟨hl1, hl2⟩ := hl1
  have hblk := fun k hk => (ho.block k hk).2
  obtain ⟨pv, cv, hv⟩ := ho.form
  obtain ⟨nb, hnb⟩ : ∃ n, n = bs.length := ⟨_, rfl⟩
  clear hc2 hf2 hg2 b1 hgb1 el
  subst hv
  go_wp2_with fail
  go_at_call 97
  refine (pick_c (show Rdr _ B g _ by repeat' (first | with_reducible exact hr2 | with_reducible apply Rdr.alloc | with_reducible apply Rdr.drew1 | with_reducible apply Rdr.drew | (apply Rdr.setO (ha := by first | omega | (simp; omega)) (hB := by first | omega | (simp; omega))))) (by omega) _).mono ?_
  rintro e w3 ⟨x3, rfl, ⟨p3, q3⟩, hr3, hg3⟩
  replace q3 := q3 (by omega)
  obtain ⟨hc3, hf3, hz3⟩ := gcell hg3 hH
  (try simp at hz3)
  (try (have ne3_0_0 : ¬ (w3.heap.size = w.heap.size) := by omega)); (try (have nf3_0_0 : ¬ (w.heap.size = w3.heap.size) := by omega))
  (try (have ne3_0_1 : ¬ (w3.heap.size = w.heap.size + 1) := by omega)); (try (have nf3_0_1 : ¬ (w.heap.size + 1 = w3.heap.size) := by omega))
  (try (have ne3_1_0 : ¬ (w3.heap.size = w1.heap.size) := by omega)); (try (have nf3_1_0 : ¬ (w1.heap.size = w3.heap.size) := by omega))
  (try (have ne3_1_1 : ¬ (w3.heap.size = w1.heap.size + 1) := by omega)); (try (have nf3_1_1 : ¬ (w1.heap.size + 1 = w3.heap.size) := by omega))
  (try (have ne3_2_0 : ¬ (w3.heap.size = w2.heap.size) := by omega)); (try (have nf3_2_0 : ¬ (w2.heap.size = w3.heap.size) := by omega))
  (try (have ne3_2_1 : ¬ (w3.heap.size = w2.heap.size + 1) := by omega)); (try (have nf3_2_1 : ¬ (w2.heap.size + 1 = w3.heap.size) := by omega))
  (try (have y3 : w.heap.size ≤ w3.heap.size := by omega))
  (try (have y3_1 : w1.heap.size ≤ w3.heap.size := by omega))
  (try (have y3_2 : w2.heap.size ≤ w3.heap.size := by omega))
  (try (have z3_0_0 : w.heap.size < w3.heap.size := by omega))
  (try (have z3_0_1 : w.heap.size + 1 < w3.heap.size := by omega))
  (try (have z3_0_2 : w.heap.size + 1 + 1 < w3.heap.size := by omega))
  (try (have z3_1_0 : w1.heap.size < w3.heap.size := by omega))
  (try (have z3_1_1 : w1.heap.size + 1 < w3.heap.size := by omega))
  (try (have z3_2_0 : w2.heap.size < w3.heap.size := by omega))
  (try (have z3_2_1 : w2.heap.size + 1 < w3.heap.size := by omega))
  obtain ⟨P, hP⟩ : ∃ P, P = w2.heap.size := ⟨_, rfl⟩
  have a3 : PcAt w3 P l x y (.slice pv bs.length cv) := by rw [hP]; exact (PcAt.new w2 _ l x y _).g hg3 (by omega)
  have b3 := (b2.al _).g hg3 (by omega)
  have ho3 := (ho.below ((Below.refl _ _).alloc (Nat.le_refl _) _)).low hg3 (by omega)
  have hgb3 : w.grownBy w3 (some g) := gb_trans (gb_alloc hgb2 _) hg3
  have hr3' := hr3
  have hzP : P < w3.heap.size := a3.lt
  have hzw : w1.heap.size ≤ P := by omega
  rw [← hP] at hblk ⊢
  have hPw : w.heap.size < P := by omega
  clear hc3 hf3 hg3 b2 hgb2 ho hr2 hr1 hP
  by_cases t0 : x3 = 0
  · subst t0
    go_wp2_with fail
    go_at_call 98
    refine (one_c (zs := [0, 10000]) (show Rdr _ B g _ by repeat' (first | with_reducible exact hr3 | with_reducible apply Rdr.alloc | with_reducible apply Rdr.drew1 | with_reducible apply Rdr.drew | (apply Rdr.setO (ha := by first | omega | (simp; omega)) (hB := by first | omega | (simp; omega))))) (by omega) (by exact lit_at _ [0, 10000] 2 _ rfl (by omega) (by first | rfl | simp)) (by omega) (by first | omega | (simp; omega))).mono ?_
    rintro e w4 ⟨x4, rfl, p4, hr4, hg4⟩
    have q4 : 0 ≤ x4 ∧ x4 ≤ 10000 := by simp at p4; omega
    clear p4
    obtain ⟨q4a, q4b⟩ := q4
    obtain ⟨hc4, hf4, hz4⟩ := gcell hg4 hH
    (try simp at hz4)
    (try (have ne4_0_0 : ¬ (w4.heap.size = w.heap.size) := by omega)); (try (have nf4_0_0 : ¬ (w.heap.size = w4.heap.size) := by omega))
    (try (have ne4_0_1 : ¬ (w4.heap.size = w.heap.size + 1) := by omega)); (try (have nf4_0_1 : ¬ (w.heap.size + 1 = w4.heap.size) := by omega))
    (try (have ne4_1_0 : ¬ (w4.heap.size = w1.heap.size) := by omega)); (try (have nf4_1_0 : ¬ (w1.heap.size = w4.heap.size) := by omega))
    (try (have ne4_1_1 : ¬ (w4.heap.size = w1.heap.size + 1) := by omega)); (try (have nf4_1_1 : ¬ (w1.heap.size + 1 = w4.heap.size) := by omega))
    (try (have ne4_2_0 : ¬ (w4.heap.size = w2.heap.size) := by omega)); (try (have nf4_2_0 : ¬ (w2.heap.size = w4.heap.size) := by omega))
    (try (have ne4_2_1 : ¬ (w4.heap.size = w2.heap.size + 1) := by omega)); (try (have nf4_2_1 : ¬ (w2.heap.size + 1 = w4.heap.size) := by omega))
    (try (have ne4_3_0 : ¬ (w4.heap.size = w3.heap.size) := by omega)); (try (have nf4_3_0 : ¬ (w3.heap.size = w4.heap.size) := by omega))
    (try (have ne4_3_1 : ¬ (w4.heap.size = w3.heap.size + 1) := by omega)); (try (have nf4_3_1 : ¬ (w3.heap.size + 1 = w4.heap.size) := by omega))
    (try (have y4 : w.heap.size ≤ w4.heap.size := by omega))
    (try (have y4_1 : w1.heap.size ≤ w4.heap.size := by omega))
    (try (have y4_2 : w2.heap.size ≤ w4.heap.size := by omega))
    (try (have y4_3 : w3.heap.size ≤ w4.heap.size := by omega))
    (try (have z4_0_0 : w.heap.size < w4.heap.size := by omega))
    (try (have z4_0_1 : w.heap.size + 1 < w4.heap.size := by omega))
    (try (have z4_0_2 : w.heap.size + 1 + 1 < w4.heap.size := by omega))
    (try (have z4_1_0 : w1.heap.size < w4.heap.size := by omega))
    (try (have z4_1_1 : w1.heap.size + 1 < w4.heap.size := by omega))
    (try (have z4_2_0 : w2.heap.size < w4.heap.size := by omega))
    (try (have z4_2_1 : w2.heap.size + 1 < w4.heap.size := by omega))
    (try (have z4_3_0 : w3.heap.size < w4.heap.size := by omega))
    (try (have z4_3_1 : w3.heap.size + 1 < w4.heap.size := by omega))
    have a4 := ((a3.al _).g hg4 (by omega))
    have b4 := ((b3.al _).g hg4 (by omega))
    have ho4 := (ho3.below ((Below.refl _ _).alloc (Nat.le_refl _) _)).low hg4 (by omega)
    have hgb4 : w.grownBy w4 (some g) := gb_trans (gb_alloc hgb3 _) hg4
    have s0 := a4.c0
    have s1 := a4.fr 0
    have a5 := a4.set0 x4
    have b5 := b4.setO (q := P) (j := 0) (u := (.int .i64 x4)) (by omega)
    have ho5 := ho4.other (grown_setCell (j := 0) (grown_refl w4 (some P)) (.int .i64 x4)) (fun e => by have := hblk _ e; omega)
    have hr5 := Rdr.setO hr4 (b := P) (i := 0) (by omega) (by omega) (.int .i64 x4)
    have hgb5 := gb_set hgb4 (b := P) (i := 0) (by omega) (.int .i64 x4)
    clear a4 b4 hg4 hc4 hf4 hr3 hr3'
    have k0 := a5.c0
    have k1 := a5.c1
    have k2 := a5.c2
    have k3 := a5.c3
    have f0 := b5.fr 0
    have f1 := b5.fr 1
    have f2 := b5.fr 2
    have f3 := b5.fr 3
    have l0 := b5.c0
    have l1 := b5.c1
    have l2 := b5.c2
    have l3 := b5.c3
    go_wp2_with fail
    refine bodyPost_ret (v := (.agg #[.int .i64 x4, .int .i64 x, .int .i64 y, .slice pv bs.length cv])) (by simp [results, Try.results82, go_sem, *]) rfl ⟨_, _, _, _, _, rfl, ((((ho5.setL (by omega)).setL (by omega)).setL (by omega)).setL (by omega)).le (by omega), by first | omega | (simp; omega), ⟨by omega, by omega, by omega, by omega, by omega, by omega⟩, Rdr.mono (Rdr.setO (Rdr.setO (Rdr.setO (Rdr.setO hr5 (by omega) (by omega) _) (by omega) (by omega) _) (by omega) (by omega) _) (by omega) (by omega) _) (by omega), gb_set (gb_set (gb_set (gb_set hgb5 (by omega) _) (by omega) _) (by omega) _) (by omega) _⟩
  · by_cases t1 : x3 = 1
    · subst t1
      go_wp2_with fail
      go_at_call 98
      refine (one_c (zs := [0, 1, 201]) (show Rdr _ B g _ by repeat' (first | with_reducible exact hr3 | with_reducible apply Rdr.alloc | with_reducible apply Rdr.drew1 | with_reducible apply Rdr.drew | (apply Rdr.setO (ha := by first | omega | (simp; omega)) (hB := by first | omega | (simp; omega))))) (by omega) (by exact lit_at _ [0, 1, 201] 3 _ rfl (by omega) (by first | rfl | simp)) (by omega) (by first | omega | (simp; omega))).mono ?_
      rintro e w4 ⟨x4, rfl, p4, hr4, hg4⟩
      have q4 : 0 ≤ x4 ∧ x4 ≤ 201 := by simp at p4; omega
      clear p4
      obtain ⟨q4a, q4b⟩ := q4
      obtain ⟨hc4, hf4, hz4⟩ := gcell hg4 hH
      (try simp at hz4)
      (try (have ne4_0_0 : ¬ (w4.heap.size = w.heap.size) := by omega)); (try (have nf4_0_0 : ¬ (w.heap.size = w4.heap.size) := by omega))
      (try (have ne4_0_1 : ¬ (w4.heap.size = w.heap.size + 1) := by omega)); (try (have nf4_0_1 : ¬ (w.heap.size + 1 = w4.heap.size) := by omega))
      (try (have ne4_1_0 : ¬ (w4.heap.size = w1.heap.size) := by omega)); (try (have nf4_1_0 : ¬ (w1.heap.size = w4.heap.size) := by omega))
      (try (have ne4_1_1 : ¬ (w4.heap.size = w1.heap.size + 1) := by omega)); (try (have nf4_1_1 : ¬ (w1.heap.size + 1 = w4.heap.size) := by omega))
      (try (have ne4_2_0 : ¬ (w4.heap.size = w2.heap.size) := by omega)); (try (have nf4_2_0 : ¬ (w2.heap.size = w4.heap.size) := by omega))
      (try (have ne4_2_1 : ¬ (w4.heap.size = w2.heap.size + 1) := by omega)); (try (have nf4_2_1 : ¬ (w2.heap.size + 1 = w4.heap.size) := by omega))
      (try (have ne4_3_0 : ¬ (w4.heap.size = w3.heap.size) := by omega)); (try (have nf4_3_0 : ¬ (w3.heap.size = w4.heap.size) := by omega))
      (try (have ne4_3_1 : ¬ (w4.heap.size = w3.heap.size + 1) := by omega)); (try (have nf4_3_1 : ¬ (w3.heap.size + 1 = w4.heap.size) := by omega))
      (try (have y4 : w.heap.size ≤ w4.heap.size := by omega))
      (try (have y4_1 : w1.heap.size ≤ w4.heap.size := by omega))
      (try (have y4_2 : w2.heap.size ≤ w4.heap.size := by omega))
      (try (have y4_3 : w3.heap.size ≤ w4.heap.size := by omega))
      (try (have z4_0_0 : w.heap.size < w4.heap.size := by omega))
      (try (have z4_0_1 : w.heap.size + 1 < w4.heap.size := by omega))
      (try (have z4_0_2 : w.heap.size + 1 + 1 < w4.heap.size := by omega))
      (try (have z4_1_0 : w1.heap.size < w4.heap.size := by omega))
      (try (have z4_1_1 : w1.heap.size + 1 < w4.heap.size := by omega))
      (try (have z4_2_0 : w2.heap.size < w4.heap.size := by omega))
      (try (have z4_2_1 : w2.heap.size + 1 < w4.heap.size := by omega))
      (try (have z4_3_0 : w3.heap.size < w4.heap.size := by omega))
      (try (have z4_3_1 : w3.heap.size + 1 < w4.heap.size := by omega))
      have a4 := ((a3.al _).g hg4 (by omega))
      have b4 := ((b3.al _).g hg4 (by omega))
      have ho4 := (ho3.below ((Below.refl _ _).alloc (Nat.le_refl _) _)).low hg4 (by omega)
      have hgb4 : w.grownBy w4 (some g) := gb_trans (gb_alloc hgb3 _) hg4
      have s0 := a4.c1
      have s1 := a4.fr 1
      have a5 := a4.set1 x4
      have b5 := b4.setO (q := P) (j := 1) (u := (.int .i64 x4)) (by omega)
      have ho5 := ho4.other (grown_setCell (j := 1) (grown_refl w4 (some P)) (.int .i64 x4)) (fun e => by have := hblk _ e; omega)
      have hr5 := Rdr.setO hr4 (b := P) (i := 1) (by omega) (by omega) (.int .i64 x4)
      have hgb5 := gb_set hgb4 (b := P) (i := 1) (by omega) (.int .i64 x4)
      clear a4 b4 hg4 hc4 hf4 hr3 hr3'
      have k0 := a5.c0
      have k1 := a5.c1
      have k2 := a5.c2
      have k3 := a5.c3
      have f0 := b5.fr 0
      have f1 := b5.fr 1
      have f2 := b5.fr 2
      have f3 := b5.fr 3
      have l0 := b5.c0
      have l1 := b5.c1
      have l2 := b5.c2
      have l3 := b5.c3
      go_wp2_with fail
      refine bodyPost_ret (v := (.agg #[.int .i64 l, .int .i64 x4, .int .i64 y, .slice pv bs.length cv])) (by simp [results, Try.results82, go_sem, *]) rfl ⟨_, _, _, _, _, rfl, ((((ho5.setL (by omega)).setL (by omega)).setL (by omega)).setL (by omega)).le (by omega), by first | omega | (simp; omega), ⟨by omega, by omega, by omega, by omega, by omega, by omega⟩, Rdr.mono (Rdr.setO (Rdr.setO (Rdr.setO (Rdr.setO hr5 (by omega) (by omega) _) (by omega) (by omega) _) (by omega) (by omega) _) (by omega) (by omega) _) (by omega), gb_set (gb_set (gb_set (gb_set hgb5 (by omega) _) (by omega) _) (by omega) _) (by omega) _⟩
    · by_cases t2 : x3 = 2
      · subst t2
        have s1 := a3.c1
        have s3 := a3.c3
        have sf := a3.fr 3
        go_wp2_with (at_builtin; refine wpList_append_own_at _ rfl (.tmp 26) (.tmp 30) 55 rfl w1.heap.size 78 i0 (.agg #[.int .i64 0, .int .i64 0, .int .i64 0, .int .i64 0]) 4 32 Try.underlying55 hi iz0 iz1 iz2 rfl (by decide) _ bs.length _ rfl (OFl.row (ho3.below (by repeat' (first | with_reducible exact Below.refl _ _ | with_reducible refine Below.alloc ?_ (by first | omega | (simp; done) | (simp; omega)) _ | with_reducible refine Below.drew ?_ | with_reducible refine below_drewN ?_ _ | with_reducible refine Below.setCell ?_ (by first | omega | (simp; done) | (simp; omega)) _ | with_reducible refine Below.grown ?_ (by assumption) (by first | omega | (simp; done) | (simp; omega)) (by intro k hk; cases hk; omega) | with_reducible refine Below.trans ?_ (Below.mono (by assumption) (by first | omega | (simp; done) | (simp; omega))))))) ⟨w3.heap.size, 0, none⟩ 1 1 [(.int .i64 x), (.int .i64 0), (.int .i64 1), (.int .i64 1)] rfl rfl (four_at _ _ _ _ _ _ _ (by first | rfl | simp)) (by intro u hu; simp at hu; rcases hu with rfl | rfl | rfl | rfl <;> rfl) (by unfold maxLen; omega) (by omega) (by simp; omega) ?_; intro v1 w4 hown4 hgrow4 hnil4 hat4; obtain ⟨g5, c5, rfl, ho4⟩ := OFl.app (b := ⟨x, 0, 1, 1⟩) hown4; have hgr4 : World.grownBy _ w4 (Value.slice pv bs.length cv).ownBlock := hgrow4; have hg5 : g5 ≠ P := ne_of_at (v := .slice pv bs.length cv) (v' := .slice (some ⟨g5, 0, none⟩) (bs.length + 1) c5) hat4 rfl hblk (by simp; omega); have a4 := (a3.al _).gO hgr4 (by intro e; have := hblk P e; omega); have b4 := (b3.al _).gO hgr4 (by intro e; have := (ho3.block _ e).1; omega); have hr4 := Rdr.grown (Rdr.alloc hr3' _) hgr4 (by intro e; have := (ho3.block g e.symm).1; omega) (fun r hr => by have := (ho3.block r hr).1; omega); have hgb4 : w.grownBy w4 (some g) := gbR (gb_alloc hgb3 _) hgr4 (fun q hq => by have := (ho3.block q hq).1; omega); have k0 := a4.c0; have k1 := a4.c1; have k2 := a4.c2; have k3 := a4.c3; have kf := a4.fr 3; have f0 := b4.fr 0; have f1 := b4.fr 1; have f2 := b4.fr 2; have f3 := b4.fr 3; have l0 := b4.c0; have l1 := b4.c1; have l2 := b4.c2; have l3 := b4.c3; have hPne : ¬ (P = w.heap.size) := (by omega); have hPne2 : ¬ (w.heap.size = P) := (by omega); clear hown4 hgrow4 hnil4 hat4 hgr4 s1 s3 sf)
        have ho5 := ho4.other (grown_setCell (j := 3) (grown_refl w4 (some P)) (.slice (some ⟨g5, 0, none⟩) (bs.length + 1) c5)) (fun e => hg5 (by injection e))
        have hr5 := Rdr.setO hr4 (b := P) (i := 3) (by omega) (by omega) (.slice (some ⟨g5, 0, none⟩) (bs.length + 1) c5)
        have hgb5 := gb_set hgb4 (b := P) (i := 3) (by omega) (.slice (some ⟨g5, 0, none⟩) (bs.length + 1) c5)
        refine bodyPost_ret (v := (.agg #[.int .i64 l, .int .i64 x, .int .i64 y, .slice (some ⟨g5, 0, none⟩) (bs.length + 1) c5])) (by simp [results, Try.results82, go_sem, *]) rfl ⟨_, _, _, _, _, rfl, ((((ho5.setL (by omega)).setL (by omega)).setL (by omega)).setL (by omega)).le (by omega), by first | omega | (simp; omega), ⟨by omega, by omega, by omega, by omega, by omega, by omega⟩, Rdr.mono (Rdr.setO (Rdr.setO (Rdr.setO (Rdr.setO hr5 (by omega) (by omega) _) (by omega) (by omega) _) (by omega) (by omega) _) (by omega) (by omega) _) (by omega), gb_set (gb_set (gb_set (gb_set hgb5 (by omega) _) (by omega) _) (by omega) _) (by omega) _⟩
      · have t0' : (x3 == 0) = false := by simpa using t0
        have t1' : (x3 == 1) = false := by simpa using t1
        have t2' : (x3 == 2) = false := by simpa using t2
        have k0 := a3.c0
        have k1 := a3.c1
        have k2 := a3.c2
        have k3 := a3.c3
        have f0 := b3.fr 0
        have f1 := b3.fr 1
        have f2 := b3.fr 2
        have f3 := b3.fr 3
        have l0 := b3.c0
        have l1 := b3.c1
        have l2 := b3.c2
        have l3 := b3.c3
        go_wp2_with fail
        refine bodyPost_ret (v := (.agg #[.int .i64 l, .int .i64 x, .int .i64 y, .slice pv bs.length cv])) (by simp [results, Try.results82, go_sem, *]) rfl ⟨_, _, _, _, _, rfl, ((((ho3.setL (by omega)).setL (by omega)).setL (by omega)).setL (by omega)).le (by omega), by first | omega | (simp; omega), ⟨by omega, by omega, by omega, by omega, by omega, by omega⟩, Rdr.mono (Rdr.setO (Rdr.setO (Rdr.setO (Rdr.setO hr3' (by omega) (by omega) _) (by omega) (by omega) _) (by omega) (by omega) _) (by omega) (by omega) _) (by omega), gb_set (gb_set (gb_set (gb_set hgb3 (by omega) _) (by omega) _) (by omega) _) (by omega) _⟩
end Go.Proofs.Ytjanjaabcinkiaa
