/- Own rows of boxes that may be nil: a piece's flaws; somePiece, anyPiece of spec; no statement is proved here. -/
import Derived.Test.YtjanjaabcinkiaaGl
import Derived.Test.YtjanjaabcinkiaaBoxS
namespace Go.Proofs.Ytjanjaabcinkiaa
open Go.ChangeShapes Go.WideShapes Go.ChangeAt Go.RowKit Go.Deep
set_option linter.unusedVariables false
set_option linter.unusedSimpArgs false

structure Fl where
  x : Int
  y : Int
  w : Int
  h : Int
instance : Inhabited Fl := ⟨⟨0, 0, 0, 0⟩⟩
def flK (l : Fl) : List Value := [(.int .i64 l.x), (.int .i64 l.y), (.int .i64 l.w), (.int .i64 l.h)]
theorem flK_len (l : Fl) : (flK l).length = 4 := rfl
theorem flK_one : ∀ l, ∀ u ∈ flK l, u.oneCell' = true := by
  intro l u hu
  simp [flK] at hu
  rcases hu with rfl | rfl | rfl | rfl <;> rfl
abbrev OF (w : World) (B g n c : Nat) (bs : List Fl) : Prop := OG flK 4 78 w B g n c bs
def OFl (w : World) (B : Nat) (v : Value) (bs : List Fl) : Prop := (v = .slice none 0 0 ∧ bs = []) ∨ ∃ g c, v = .slice (some ⟨g, 0, none⟩) bs.length c ∧ OF w B g bs.length c bs
theorem OFl.nil (w : World) (B : Nat) : OFl w B (.slice none 0 0) [] := .inl ⟨rfl, rfl⟩
theorem OFl.below {W w : World} {B : Nat} {v : Value} {bs : List Fl} (h : OFl W B v bs) (hb : Below W.heap.size W w) : OFl w B v bs := by
  rcases h with h | ⟨g, c, e, h⟩
  · exact .inl h
  · exact .inr ⟨g, c, e, h.below hb⟩
theorem OFl.le {w : World} {B B' : Nat} {v : Value} {bs : List Fl} (h : OFl w B v bs) (hb : B' ≤ B) : OFl w B' v bs := by
  rcases h with h | ⟨g, c, e, h⟩
  · exact .inl h
  · exact .inr ⟨g, c, e, h.le hb⟩
theorem OFl.other {w w' : World} {B q : Nat} {v : Value} {bs : List Fl} (h : OFl w B v bs) (hg : w.grownBy w' (some q)) (hq : v.ownBlock ≠ some q) : OFl w' B v bs := by
  rcases h with h | ⟨g, c, e, h⟩
  · exact .inl h
  · exact .inr ⟨g, c, e, h.other hg (by intro e'; subst e; exact hq (by rw [← e']; rfl))⟩
theorem OFl.block {w : World} {B : Nat} {v : Value} {bs : List Fl} (h : OFl w B v bs) : ∀ k, v.ownBlock = some k → B ≤ k ∧ k < w.heap.size := by
  rcases h with ⟨rfl, _⟩ | ⟨g, c, rfl, h⟩
  · intro k hk; cases hk
  · intro k hk; cases hk; exact ⟨h.ge, h.lt⟩
theorem OFl.low {w w' : World} {B q : Nat} {v : Value} {bs : List Fl} (h : OFl w B v bs) (hg : w.grownBy w' (some q)) (hq : q < B) : OFl w' B v bs :=
  h.other hg (fun e => by have := (h.block q e).1; omega)
theorem OFl.setL {w : World} {B q j : Nat} {v u : Value} {bs : List Fl} (h : OFl w B v bs) (hq : q < B) : OFl (w.setCell ⟨q, j, none⟩ u) B v bs := h.low (grown_setCell (grown_refl w (some q)) u) hq
theorem OFl.row {w : World} {B : Nat} {v : Value} {bs : List Fl} (h : OFl w B v bs) : w.ownsRow B 78 4 v bs.length (flatG flK bs) := by
  rcases h with ⟨rfl, rfl⟩ | ⟨g, c, rfl, h⟩
  · exact World.ownsRow_nil w B _ 4
  · exact h.row
theorem OFl.app {w1 : World} {B : Nat} {v1 : Value} {bs : List Fl} {b : Fl} (h1 : w1.ownsRow B 78 4 v1 (bs.length + 1) (flatG flK bs ++ [(.int .i64 b.x), (.int .i64 b.y), (.int .i64 b.w), (.int .i64 b.h)])) : ∃ g c, v1 = .slice (some ⟨g, 0, none⟩) (bs.length + 1) c ∧ OFl w1 B (.slice (some ⟨g, 0, none⟩) (bs.length + 1) c) (bs ++ [b]) := by
  rcases Joins.ownsRow_forms h1 with ⟨_, e⟩ | ⟨g, c, rfl⟩
  · simp at e
  · refine ⟨g, c, rfl, .inr ⟨g, c, by simp, ?_⟩⟩
    refine ⟨flK_len, by omega, ?_, rfl⟩
    rw [flatG_app, flatG_one, List.length_append]
    exact h1
theorem gbR {a w w' : World} {row r' : Option Nat} (hg : a.grownBy w row) (k : w.grownBy w' r') (hh : ∀ q, r' = some q → a.heap.size ≤ q) : a.grownBy w' row :=
  ⟨k.os.trans hg.os, k.tape.trans hg.tape, k.output.trans hg.output, Nat.le_trans hg.size k.size, fun b hb hr => (k.block b (Nat.lt_of_lt_of_le hb hg.size) (by intro e; have := hh b e.symm; omega)).trans (hg.block b hb hr)⟩
theorem four_at (w : World) (E : TypeId) (B : Nat) (a b c d : Value) (h : w.heap.size = B) : ∀ (j : Nat) (u : Value), ([a, b, c, d] : List Value)[j]? = some u → (w.alloc (.cells #[a, b, c, d] E)).cell? (Addr.add ⟨B, 0, none⟩ j) = some u := by
  intro j u hu
  subst h
  match j, hu with
  | 0, h => simp at h; subst h; go_simp
  | 1, h => simp at h; subst h; go_simp
  | 2, h => simp at h; subst h; go_simp
  | 3, h => simp at h; subst h; go_simp
  | j + 4, h => simp at h
/-- a piece's four cells at P, writable -/
structure PcAt (w : World) (P : Nat) (l x y : Int) (v : Value) : Prop where
  lt : P < w.heap.size
  c0 : w.cell? ⟨P, 0, none⟩ = some (.int .i64 l)
  c1 : w.cell? ⟨P, 1, none⟩ = some (.int .i64 x)
  c2 : w.cell? ⟨P, 2, none⟩ = some (.int .i64 y)
  c3 : w.cell? ⟨P, 3, none⟩ = some v
  fr : ∀ o, w.frozen? ⟨P, o, none⟩ = false
theorem PcAt.g {W w1 : World} {P q : Nat} {l x y : Int} {v : Value} (h : PcAt W P l x y v) (hg : W.grownBy w1 (some q)) (hne : P ≠ q) : PcAt w1 P l x y v := by
  obtain ⟨hc, hf⟩ := gb_at hg h.lt hne
  exact ⟨Nat.lt_of_lt_of_le h.lt hg.size, (hc 0).trans h.c0, (hc 1).trans h.c1, (hc 2).trans h.c2, (hc 3).trans h.c3, fun o => (hf o).trans (h.fr o)⟩
theorem PcAt.bel {W w1 : World} {P C : Nat} {l x y : Int} {v : Value} (h : PcAt W P l x y v) (hb : Below C W w1) (hP : P < C) : PcAt w1 P l x y v :=
  ⟨Nat.lt_of_lt_of_le h.lt hb.size, (hb.cell (p := ⟨P, 0, none⟩) hP).trans h.c0, (hb.cell (p := ⟨P, 1, none⟩) hP).trans h.c1, (hb.cell (p := ⟨P, 2, none⟩) hP).trans h.c2, (hb.cell (p := ⟨P, 3, none⟩) hP).trans h.c3, fun o => (hb.frozen (p := ⟨P, o, none⟩) hP).trans (h.fr o)⟩
theorem PcAt.al {W : World} {P : Nat} {l x y : Int} {v : Value} (h : PcAt W P l x y v) (o : Obj) : PcAt (W.alloc o) P l x y v := h.bel (C := W.heap.size) ((Below.refl _ _).alloc (Nat.le_refl _) _) h.lt
theorem PcAt.setO {W : World} {P q j : Nat} {l x y : Int} {v u : Value} (h : PcAt W P l x y v) (hne : P ≠ q) : PcAt (W.setCell ⟨q, j, none⟩ u) P l x y v := h.g (grown_setCell (grown_refl W (some q)) u) hne
theorem PcAt.set3 {W : World} {P : Nat} {l x y : Int} {v : Value} (h : PcAt W P l x y v) (u : Value) : PcAt (W.setCell ⟨P, 3, none⟩ u) P l x y u := by
  refine ⟨by simpa [World.setCell] using h.lt, ?_, ?_, ?_, World.cell?_setCell_same _ _ _ h.c3, fun o => by rw [World.frozen?_setCell]; exact h.fr o⟩
  · refine (World.cell?_setCell_other _ _ _ _ (by simp)).trans ?_; exact h.c0
  · refine (World.cell?_setCell_other _ _ _ _ (by simp)).trans ?_; exact h.c1
  · refine (World.cell?_setCell_other _ _ _ _ (by simp)).trans ?_; exact h.c2
theorem PcAt.set0 {W : World} {P : Nat} {l x y : Int} {v : Value} (h : PcAt W P l x y v) (u : Int) : PcAt (W.setCell ⟨P, 0, none⟩ (.int .i64 u)) P u x y v := by
  refine ⟨by simpa [World.setCell] using h.lt, World.cell?_setCell_same _ _ _ h.c0, ?_, ?_, ?_, fun o => by rw [World.frozen?_setCell]; exact h.fr o⟩
  · refine (World.cell?_setCell_other _ _ _ _ (by simp)).trans ?_; exact h.c1
  · refine (World.cell?_setCell_other _ _ _ _ (by simp)).trans ?_; exact h.c2
  · refine (World.cell?_setCell_other _ _ _ _ (by simp)).trans ?_; exact h.c3
theorem PcAt.set1 {W : World} {P : Nat} {l x y : Int} {v : Value} (h : PcAt W P l x y v) (u : Int) : PcAt (W.setCell ⟨P, 1, none⟩ (.int .i64 u)) P l u y v := by
  refine ⟨by simpa [World.setCell] using h.lt, ?_, World.cell?_setCell_same _ _ _ h.c1, ?_, ?_, fun o => by rw [World.frozen?_setCell]; exact h.fr o⟩
  · refine (World.cell?_setCell_other _ _ _ _ (by simp)).trans ?_; exact h.c0
  · refine (World.cell?_setCell_other _ _ _ _ (by simp)).trans ?_; exact h.c2
  · refine (World.cell?_setCell_other _ _ _ _ (by simp)).trans ?_; exact h.c3
/-- a piece is drawn by a reader -/
def PkC (Q : Int → Int → Int → Prop) (k B g m : Nat) (w : World) : Ending → World → Prop := fun e w' => ∃ l x y v bs, e = .returned (.agg #[.int .i64 l, .int .i64 x, .int .i64 y, v]) ∧ OFl w' w.heap.size v bs ∧ bs.length ≤ k ∧ Q l x y ∧ Rdr w' B g m ∧ w.grownBy w' (some g)
set_option maxRecDepth 100000 in
set_option maxHeartbeats 2000000 in
theorem somePiece_c {w : World} {B g m : Nat} (hr : Rdr w B g m) (hm : m ≤ 700000) (label : Int) :
    Calls Try.prog 99 #[.pointer (some ⟨g, 0, none⟩), (.int .i64 label)] w (PkC (fun l x y => l = label ∧ 6 ≤ x ∧ x ≤ 30 ∧ 6 ≤ y ∧ y ≤ 24) 3 B g (m + 40) w) := by
  obtain ⟨i0, hi, iz0, iz1, iz2⟩ := info_parts infoBox
  have hH := hr.lt
  have hB := hr.ge
  have hB0 : B ≤ w.heap.size := by omega
  have hr0 := hr
  go_enter Try.func99, Try.ntmps99
  go_wp2_with fail
  go_at_call 98
  refine (one_c (zs := [12, 20, 8, 6, 30]) (show Rdr _ B g _ by repeat' (first | with_reducible exact hr0 | with_reducible apply Rdr.alloc | with_reducible apply Rdr.drew1 | with_reducible apply Rdr.drew | (apply Rdr.setO (ha := by first | omega | (simp; omega)) (hB := by first | omega | (simp; omega))))) (by omega) (by exact lit_at _ [12, 20, 8, 6, 30] 5 _ rfl (by omega) (by first | rfl | simp)) (by omega) (by first | omega | (simp; omega))).mono ?_
  rintro e w1 ⟨x, rfl, p1, hr1, hg1⟩
  have q1 : 6 ≤ x ∧ x ≤ 30 := by simp at p1; omega
  clear p1
  obtain ⟨q1a, q1b⟩ := q1
  obtain ⟨hc1, hf1, hz1⟩ := gcell hg1 hH
  (try simp at hz1)
  (try (have ne1_0_0 : ¬ (w1.heap.size = w.heap.size) := by omega)); (try (have nf1_0_0 : ¬ (w.heap.size = w1.heap.size) := by omega))
  (try (have ne1_0_1 : ¬ (w1.heap.size = w.heap.size + 1) := by omega)); (try (have nf1_0_1 : ¬ (w.heap.size + 1 = w1.heap.size) := by omega))
  (try (have y1 : w.heap.size ≤ w1.heap.size := by omega))
  (try (have z1_0_0 : w.heap.size < w1.heap.size := by omega))
  (try (have z1_0_1 : w.heap.size + 1 < w1.heap.size := by omega))
  (try (have z1_0_2 : w.heap.size + 1 + 1 < w1.heap.size := by omega))
  go_wp2_with fail
  have b1 : PcAt w1 w.heap.size 0 0 0 (.slice none 0 0) := ⟨by omega, by go_simp, by go_simp, by go_simp, by go_simp, fun o => by go_simp⟩
  go_at_call 98
  refine (one_c (zs := [10, 16, 8, 6, 24]) (show Rdr _ B g _ by repeat' (first | with_reducible exact hr1 | with_reducible apply Rdr.alloc | with_reducible apply Rdr.drew1 | with_reducible apply Rdr.drew | (apply Rdr.setO (ha := by first | omega | (simp; omega)) (hB := by first | omega | (simp; omega))))) (by omega) (by exact lit_at _ [10, 16, 8, 6, 24] 5 _ rfl (by omega) (by first | rfl | simp)) (by omega) (by first | omega | (simp; omega))).mono ?_
  rintro e w2 ⟨y, rfl, p2, hr2, hg2⟩
  have q2 : 6 ≤ y ∧ y ≤ 24 := by simp at p2; omega
  clear p2
  obtain ⟨q2a, q2b⟩ := q2
  obtain ⟨hc2, hf2, hz2⟩ := gcell hg2 hH
  (try simp at hz2)
  (try (have ne2_0_0 : ¬ (w2.heap.size = w.heap.size) := by omega)); (try (have nf2_0_0 : ¬ (w.heap.size = w2.heap.size) := by omega))
  (try (have ne2_0_1 : ¬ (w2.heap.size = w.heap.size + 1) := by omega)); (try (have nf2_0_1 : ¬ (w.heap.size + 1 = w2.heap.size) := by omega))
  (try (have ne2_1_0 : ¬ (w2.heap.size = w1.heap.size) := by omega)); (try (have nf2_1_0 : ¬ (w1.heap.size = w2.heap.size) := by omega))
  (try (have ne2_1_1 : ¬ (w2.heap.size = w1.heap.size + 1) := by omega)); (try (have nf2_1_1 : ¬ (w1.heap.size + 1 = w2.heap.size) := by omega))
  (try (have y2 : w.heap.size ≤ w2.heap.size := by omega))
  (try (have y2_1 : w1.heap.size ≤ w2.heap.size := by omega))
  (try (have z2_0_0 : w.heap.size < w2.heap.size := by omega))
  (try (have z2_0_1 : w.heap.size + 1 < w2.heap.size := by omega))
  (try (have z2_0_2 : w.heap.size + 1 + 1 < w2.heap.size := by omega))
  (try (have z2_1_0 : w1.heap.size < w2.heap.size := by omega))
  (try (have z2_1_1 : w1.heap.size + 1 < w2.heap.size := by omega))
  go_wp2_with fail
  have b2 := (b1.al _).g hg2 (by omega)
  go_at_call 98
  refine (one_c (zs := [0, 1, 2, 3, 0]) (show Rdr _ B g _ by repeat' (first | with_reducible exact hr2 | with_reducible apply Rdr.alloc | with_reducible apply Rdr.drew1 | with_reducible apply Rdr.drew | (apply Rdr.setO (ha := by first | omega | (simp; omega)) (hB := by first | omega | (simp; omega))))) (by omega) (by exact lit_at _ [0, 1, 2, 3, 0] 5 _ rfl (by omega) (by first | rfl | simp)) (by omega) (by first | omega | (simp; omega))).mono ?_
  rintro e w3 ⟨x3, rfl, p3, hr3, hg3⟩
  have q3 : 0 ≤ x3 ∧ x3 ≤ 3 := by simp at p3; omega
  clear p3
  obtain ⟨q3a, q3b⟩ := q3
  obtain ⟨hc3, hf3, hz3⟩ := gcell hg3 hH
  (try simp at hz3)
  (try (have ne3_0_0 : ¬ (w3.heap.size = w.heap.size) := by omega)); (try (have nf3_0_0 : ¬ (w.heap.size = w3.heap.size) := by omega))
  (try (have ne3_0_1 : ¬ (w3.heap.size = w.heap.size + 1) := by omega)); (try (have nf3_0_1 : ¬ (w.heap.size + 1 = w3.heap.size) := by omega))
  (try (have ne3_1_0 : ¬ (w3.heap.size = w1.heap.size) := by omega)); (try (have nf3_1_0 : ¬ (w1.heap.size = w3.heap.size) := by omega))
  (try (have ne3_1_1 : ¬ (w3.heap.size = w1.heap.size + 1) := by omega)); (try (have nf3_1_1 : ¬ (w1.heap.size + 1 = w3.heap.size) := by omega))
  (try (have ne3_2_0 : ¬ (w3.heap.size = w2.heap.size) := by omega)); (try (have nf3_2_0 : ¬ (w2.heap.size = w3.heap.size) := by omega))
  (try (have ne3_2_1 : ¬ (w3.heap.size = w2.heap.size + 1) := by omega)); (try (have nf3_2_1 : ¬ (w2.heap.size + 1 = w3.heap.size) := by omega))
  (try (have y3 : w.heap.size ≤ w3.heap.size := by omega))
  (try (have y3_1 : w1.heap.size ≤ w3.heap.size := by omega))
  (try (have y3_2 : w2.heap.size ≤ w3.heap.size := by omega))
  (try (have z3_0_0 : w.heap.size < w3.heap.size := by omega))
  (try (have z3_0_1 : w.heap.size + 1 < w3.heap.size := by omega))
  (try (have z3_0_2 : w.heap.size + 1 + 1 < w3.heap.size := by omega))
  (try (have z3_1_0 : w1.heap.size < w3.heap.size := by omega))
  (try (have z3_1_1 : w1.heap.size + 1 < w3.heap.size := by omega))
  (try (have z3_2_0 : w2.heap.size < w3.heap.size := by omega))
  (try (have z3_2_1 : w2.heap.size + 1 < w3.heap.size := by omega))
  obtain ⟨P, hP⟩ : ∃ P, P = w2.heap.size := ⟨_, rfl⟩
  have a0 : PcAt w3 P label x y (.slice none 0 0) := by rw [hP]; exact ⟨by omega, by go_simp, by go_simp, by go_simp, by go_simp, fun o => by go_simp⟩
  have a1 : PcAt w3 w.heap.size 0 0 0 (.slice none 0 0) := ((b2.al _).al _).g hg3 (by omega)
  have hgb3 : w.grownBy w3 (some g) := (by repeat' (first | with_reducible exact World.grownBy.refl _ _ | with_reducible refine gb_alloc ?_ _ | with_reducible refine gb_set ?_ (by first | omega | (simp; omega)) _ | with_reducible refine gb_drewN ?_ _ | with_reducible refine gb_drew1 ?_ | with_reducible refine gb_trans ?_ (by assumption)))
  obtain ⟨j3, rfl⟩ : ∃ j : Nat, x3 = j := ⟨x3.toNat, by omega⟩
  rw [← hP]
  have hPw : w.heap.size < P := by omega
  have hr3' := hr3
  clear hc1 hf1 hc2 hf2 hc3 hf3 hg1 hg2 hg3 hP hr1 hr2
  clear b1 b2
  go_wp2_with fail
  go_loopw [6] (fun k wr => ∃ j m' : Nat, ∃ v bs, k = .int .i64 j ∧ bs.length + j ≤ 3 ∧ m' + 6 * j ≤ m + 25 ∧ OFl wr (P + 1) v bs ∧ PcAt wr P label x y v ∧ PcAt wr w.heap.size 0 0 0 (.slice none 0 0) ∧ Rdr wr B g m' ∧ w.grownBy wr (some g)) (fun k _ => (intOf k).toNat)
  case atStart => exact ⟨j3, m + 3, _, [], rfl, by simp; omega, by omega, OFl.nil _ _, a0, a1, hr3', hgb3⟩
  case round =>
    obtain ⟨j, m', v, bs, rfl, hbl, hmj, ho, a, b, hrr, hgb⟩ := hrel
    clear a0 a1 hgb3 hr3'
    have hzr := hgb.size
    by_cases hj : 0 < j
    · obtain ⟨i, rfl⟩ : ∃ i, j = i + 1 := ⟨j - 1, by omega⟩
      have i1 : (0 : Int) < ((i + 1 : Nat) : Int) := by omega
      have k1 := a.c1
      have k2 := a.c2
      have hr3 := hrr
      go_wp2_with fail
      go_at_call 102
      refine (someBox_c (show Rdr _ B g _ by repeat' (first | with_reducible exact hr3 | with_reducible apply Rdr.alloc | with_reducible apply Rdr.drew1 | with_reducible apply Rdr.drew | (apply Rdr.setO (ha := by first | omega | (simp; omega)) (hB := by first | omega | (simp; omega))))) (by omega) x y ⟨by omega, by omega⟩ ⟨by omega, by omega⟩).mono ?_
      rintro e w4 ⟨bx, by', bw, bh, rfl, q4, hr4, hg4⟩
      obtain ⟨hc4, hf4, hz4⟩ := gcell hg4 hH
      (try simp at hz4)
      (try (have ne4_0_0 : ¬ (w4.heap.size = w.heap.size) := by omega)); (try (have nf4_0_0 : ¬ (w.heap.size = w4.heap.size) := by omega))
      (try (have ne4_0_1 : ¬ (w4.heap.size = w.heap.size + 1) := by omega)); (try (have nf4_0_1 : ¬ (w.heap.size + 1 = w4.heap.size) := by omega))
      (try (have ne4_1_0 : ¬ (w4.heap.size = w1.heap.size) := by omega)); (try (have nf4_1_0 : ¬ (w1.heap.size = w4.heap.size) := by omega))
      (try (have ne4_1_1 : ¬ (w4.heap.size = w1.heap.size + 1) := by omega)); (try (have nf4_1_1 : ¬ (w1.heap.size + 1 = w4.heap.size) := by omega))
      (try (have ne4_2_0 : ¬ (w4.heap.size = w2.heap.size) := by omega)); (try (have nf4_2_0 : ¬ (w2.heap.size = w4.heap.size) := by omega))
      (try (have ne4_2_1 : ¬ (w4.heap.size = w2.heap.size + 1) := by omega)); (try (have nf4_2_1 : ¬ (w2.heap.size + 1 = w4.heap.size) := by omega))
      (try (have ne4_3_0 : ¬ (w4.heap.size = w3.heap.size) := by omega)); (try (have nf4_3_0 : ¬ (w3.heap.size = w4.heap.size) := by omega))
      (try (have ne4_3_1 : ¬ (w4.heap.size = w3.heap.size + 1) := by omega)); (try (have nf4_3_1 : ¬ (w3.heap.size + 1 = w4.heap.size) := by omega))
      (try (have y4 : w.heap.size ≤ w4.heap.size := by omega))
      (try (have y4_1 : w1.heap.size ≤ w4.heap.size := by omega))
      (try (have y4_2 : w2.heap.size ≤ w4.heap.size := by omega))
      (try (have y4_3 : w3.heap.size ≤ w4.heap.size := by omega))
      (try (have z4_0_0 : w.heap.size < w4.heap.size := by omega))
      (try (have z4_0_1 : w.heap.size + 1 < w4.heap.size := by omega))
      (try (have z4_0_2 : w.heap.size + 1 + 1 < w4.heap.size := by omega))
      (try (have z4_1_0 : w1.heap.size < w4.heap.size := by omega))
      (try (have z4_1_1 : w1.heap.size + 1 < w4.heap.size := by omega))
      (try (have z4_2_0 : w2.heap.size < w4.heap.size := by omega))
      (try (have z4_2_1 : w2.heap.size + 1 < w4.heap.size := by omega))
      (try (have z4_3_0 : w3.heap.size < w4.heap.size := by omega))
      (try (have z4_3_1 : w3.heap.size + 1 < w4.heap.size := by omega))
      have a4 := a.g hg4 (by omega)
      have b4 := b.g hg4 (by omega)
      have ho4 := ho.low hg4 (by omega)
      have hgb4 : w.grownBy w4 (some g) := gb_trans hgb hg4
      have l4 := a4.lt
      have k3 := a4.c3
      have kf := a4.fr 3
      have hr4' := hr4
      clear hc4 hf4 k1 k2 hg4 hr3
      have m1 : (if (3 : Int) < bw then (3 : Int) else bw) = mN bw 3 := rfl
      have m2 : (if (3 : Int) < bh then (3 : Int) else bh) = mN bh 3 := rfl
      have hne : ¬ (P = w4.heap.size) := by omega
      have hne2 : ¬ (w4.heap.size = P) := by omega
      go_wp2_with (at_builtin; refine wpList_append_own _ rfl (.tmp 38) (.tmp 40) 55 rfl (P + 1) 78 i0 (.agg #[.int .i64 0, .int .i64 0, .int .i64 0, .int .i64 0]) 4 32 Try.underlying55 hi iz0 iz1 iz2 rfl (by decide) _ bs.length _ rfl (OFl.row (ho4.below (by repeat' (first | with_reducible exact Below.refl _ _ | with_reducible refine Below.alloc ?_ (by first | omega | (simp; done) | (simp; omega)) _ | with_reducible refine Below.drew ?_ | with_reducible refine below_drewN ?_ _ | with_reducible refine Below.setCell ?_ (by first | omega | (simp; done) | (simp; omega)) _ | with_reducible refine Below.grown ?_ (by assumption) (by first | omega | (simp; done) | (simp; omega)) (by intro k hk; cases hk; omega) | with_reducible refine Below.trans ?_ (Below.mono (by assumption) (by first | omega | (simp; done) | (simp; omega))))))) ⟨w4.heap.size + 1, 0, none⟩ 1 1 [(.int .i64 bx), (.int .i64 by'), (.int .i64 (mN bw 3)), (.int .i64 (mN bh 3))] rfl rfl (four_at _ _ _ _ _ _ _ (by first | rfl | simp)) (by intro u hu; simp at hu; rcases hu with rfl | rfl | rfl | rfl <;> rfl) (by unfold maxLen; omega) (by omega) (by simp; omega) ?_; intro v1 w5 hown5 hgrow5 hnil5; obtain ⟨g5, c5, rfl, ho5⟩ := OFl.app (b := ⟨bx, by', mN bw 3, mN bh 3⟩) hown5; have hgr5 : World.grownBy _ w5 v.ownBlock := hgrow5; have hb5 : Below (P + 1) w4 w5 := Below.grown (((Below.refl _ _).alloc (by omega) _).alloc (by simp; omega) _) hgr5 (by simp; omega) (fun k hk => (ho4.block k hk).1); have a5 := a4.bel hb5 (by omega); have b5 := b4.bel hb5 (by omega); have hr5 := Rdr.grown (Rdr.alloc (Rdr.alloc hr4' _) _) hgr5 (by intro e; have := (ho4.block g e.symm).1; omega) (fun r hr => by have := (ho4.block r hr).1; omega); have hgb5 : w.grownBy w5 (some g) := gbR (gb_alloc (gb_alloc hgb4 _) _) hgr5 (fun q hq => by have := (ho4.block q hq).1; omega); have k5 := a5.c3; have kf5 := a5.fr 3; have l5 := a5.lt; clear hown5 hgrow5 hnil5 hgr5 k3 kf)
      go_roundw
      case rel => exact ⟨i, _, _, bs ++ [⟨bx, by', mN bw 3, mN bh 3⟩], by go_num, by simp; omega, by omega, ho5.setL (by omega), a5.set3 _, b5.setO (by omega), Rdr.setO hr5 (by omega) (by omega) _, gb_set hgb5 (by omega) _⟩
      case measure => simp [intOf]
    · obtain rfl : j = 0 := by omega
      have k0 := a.c0
      have k1 := a.c1
      have k2 := a.c2
      have k3 := a.c3
      have f0 := b.fr 0
      have f1 := b.fr 1
      have f2 := b.fr 2
      have f3 := b.fr 3
      have l0 := b.c0
      have l1 := b.c1
      have l2 := b.c2
      have l3 := b.c3
      have ho0 := ho
      rcases ho0 with ⟨rfl, rfl⟩ | ⟨g', c', rfl, hb0⟩
      · have hb0 : True := trivial
        clear hb0
        go_wp2_with fail
        refine bodyPost_ret (v := (.agg #[.int .i64 label, .int .i64 x, .int .i64 y, .slice none 0 0])) (by simp [results, Try.results99, go_sem, *]) rfl ⟨label, x, y, _, _, rfl, ((((ho.setL (by omega)).setL (by omega)).setL (by omega)).setL (by omega)).le (by omega), by first | omega | (simp; done), ⟨rfl, by omega, by omega, by omega, by omega⟩, Rdr.mono (Rdr.setO (Rdr.setO (Rdr.setO (Rdr.setO hrr (by omega) (by omega) _) (by omega) (by omega) _) (by omega) (by omega) _) (by omega) (by omega) _) (by omega), gb_set (gb_set (gb_set (gb_set hgb (by omega) _) (by omega) _) (by omega) _) (by omega) _⟩
      · skip
        clear hb0
        go_wp2_with fail
        refine bodyPost_ret (v := (.agg #[.int .i64 label, .int .i64 x, .int .i64 y, .slice (some ⟨g', 0, none⟩) bs.length c'])) (by simp [results, Try.results99, go_sem, *]) rfl ⟨label, x, y, _, _, rfl, ((((ho.setL (by omega)).setL (by omega)).setL (by omega)).setL (by omega)).le (by omega), by first | omega | (simp; done), ⟨rfl, by omega, by omega, by omega, by omega⟩, Rdr.mono (Rdr.setO (Rdr.setO (Rdr.setO (Rdr.setO hrr (by omega) (by omega) _) (by omega) (by omega) _) (by omega) (by omega) _) (by omega) (by omega) _) (by omega), gb_set (gb_set (gb_set (gb_set hgb (by omega) _) (by omega) _) (by omega) _) (by omega) _⟩
end Go.Proofs.Ytjanjaabcinkiaa
