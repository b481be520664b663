/- What the generators of spec draw: boxes and panes; no statement is proved here. -/
import Derived.Test.YtjanjaabcinkiaaRdr
namespace Go.Proofs.Ytjanjaabcinkiaa
open Go.ChangeShapes Go.WideShapes Go.ChangeAt Go.RowKit
set_option linter.unusedVariables false
set_option linter.unusedSimpArgs false

/-- a generator's call: it returns a box of which Q holds, and turns nothing but the reader -/
def PkB (Q : Int → Int → Int → Int → Prop) (B g m : Nat) (w : World) : Ending → World → Prop := fun e w' => ∃ x y b h, e = .returned (.agg #[.int .i64 x, .int .i64 y, .int .i64 b, .int .i64 h]) ∧ Q x y b h ∧ Rdr w' B g m ∧ w.grownBy w' (some g)
theorem Rdr.setO {w : World} {B g m : Nat} (h : Rdr w B g m) {b i : Nat} (ha : b ≠ g) (hB : B ≤ b) (v : Value) : Rdr (w.setCell ⟨b, i, none⟩ v) B g m :=
  h.grown (row := some b) (grown_setCell (grown_refl w (some b)) v) (by intro e; injection e with e; exact ha e.symm) (fun r hr => by cases hr; exact hB)
theorem gb_trans {a w w' : World} {row : Option Nat} (h : a.grownBy w row) (k : w.grownBy w' row) : a.grownBy w' row :=
  ⟨k.os.trans h.os, k.tape.trans h.tape, k.output.trans h.output, Nat.le_trans h.size k.size, fun b hb hr => (k.block b (Nat.lt_of_lt_of_le hb h.size) hr).trans (h.block b hb hr)⟩
theorem gb_alloc {a w : World} {row : Option Nat} (h : a.grownBy w row) (o : Obj) : a.grownBy (w.alloc o) row := gb_trans h (World.grownBy_alloc w o row)
theorem gb_drewN {a w : World} {row : Option Nat} (h : a.grownBy w row) (n : Nat) : a.grownBy (w.drewN n) row := grownBy_drewN h n
theorem gb_set {a w : World} {row : Option Nat} (h : a.grownBy w row) {b i : Nat} (hp : a.heap.size ≤ b) (v : Value) : a.grownBy (w.setCell ⟨b, i, none⟩ v) row := by
  have hg : w.grownBy (w.setCell ⟨b, i, none⟩ v) (some b) := grown_setCell (grown_refl w (some b)) v
  exact ⟨hg.os.trans h.os, hg.tape.trans h.tape, hg.output.trans h.output, Nat.le_trans h.size hg.size, fun k hb hr => (hg.block k (Nat.lt_of_lt_of_le hb h.size) (by intro e; injection e with e; omega)).trans (h.block k hb hr)⟩
theorem gb_drew1 {a w : World} {row : Option Nat} (h : a.grownBy w row) : a.grownBy w.drew row := ⟨h.os, h.tape, h.output, h.size, h.block⟩
theorem Rdr.drew1 {w : World} {B g m : Nat} (h : Rdr w B g m) : Rdr w.drew B g m := h.grown (gb_drew1 (World.grownBy.refl w none)) (by simp) (by simp)
set_option maxHeartbeats 1000000 in
theorem someBox_c {w : World} {B g m : Nat} (hr : Rdr w B g m) (hm : m ≤ 900000) (a c : Int) (ha : 1 ≤ a ∧ a ≤ 200) (hc : 1 ≤ c ∧ c ≤ 200) :
    Calls Try.prog 102 #[.pointer (some ⟨g, 0, none⟩), (.int .i64 a), (.int .i64 c)] w (PkB (fun x y b h => 0 ≤ x ∧ 1 ≤ b ∧ x + b ≤ a ∧ 0 ≤ y ∧ 1 ≤ h ∧ y + h ≤ c) B g (m + 4) w) := by
  obtain ⟨ha1, ha2⟩ := ha
  obtain ⟨ia1, ia2⟩ := hc
  have hH := hr.lt
  have hB := hr.ge
  have hr0 := hr
  go_enter Try.func102, Try.ntmps102
  go_wp2_with fail
  go_at_call 97
  refine (pick_c (show Rdr _ B g _ by repeat' (first | with_reducible exact hr0 | with_reducible apply Rdr.alloc | with_reducible apply Rdr.drew1 | with_reducible apply Rdr.drew | (apply Rdr.setO (ha := by first | omega | (simp; omega)) (hB := by first | omega | (simp; omega))))) (by omega) _).mono ?_
  rintro e w1 ⟨x1, rfl, ⟨p1, q1⟩, hr1, hg1⟩
  replace q1 := q1 (by omega)
  obtain ⟨hc1, hf1, hz1⟩ := gcell hg1 hH
  (try simp at hz1)
  (try (have ne1_0_0 : ¬ (w1.heap.size = w.heap.size) := by omega)); (try (have nf1_0_0 : ¬ (w.heap.size = w1.heap.size) := by omega))
  (try (have ne1_0_1 : ¬ (w1.heap.size = w.heap.size + 1) := by omega)); (try (have nf1_0_1 : ¬ (w.heap.size + 1 = w1.heap.size) := by omega))
  (try (have y1 : w.heap.size ≤ w1.heap.size := by omega))
  (try (have z1_0_0 : w.heap.size < w1.heap.size := by omega))
  (try (have z1_0_1 : w.heap.size + 1 < w1.heap.size := by omega))
  (try (have z1_0_2 : w.heap.size + 1 + 1 < w1.heap.size := by omega))
  go_wp2_with fail
  go_at_call 97
  refine (pick_c (show Rdr _ B g _ by repeat' (first | with_reducible exact hr1 | with_reducible apply Rdr.alloc | with_reducible apply Rdr.drew1 | with_reducible apply Rdr.drew | (apply Rdr.setO (ha := by first | omega | (simp; omega)) (hB := by first | omega | (simp; omega))))) (by omega) _).mono ?_
  rintro e w2 ⟨x2, rfl, ⟨p2, q2⟩, hr2, hg2⟩
  replace q2 := q2 (by omega)
  obtain ⟨hc2, hf2, hz2⟩ := gcell hg2 hH
  (try simp at hz2)
  (try (have ne2_0_0 : ¬ (w2.heap.size = w.heap.size) := by omega)); (try (have nf2_0_0 : ¬ (w.heap.size = w2.heap.size) := by omega))
  (try (have ne2_0_1 : ¬ (w2.heap.size = w.heap.size + 1) := by omega)); (try (have nf2_0_1 : ¬ (w.heap.size + 1 = w2.heap.size) := by omega))
  (try (have ne2_1_0 : ¬ (w2.heap.size = w1.heap.size) := by omega)); (try (have nf2_1_0 : ¬ (w1.heap.size = w2.heap.size) := by omega))
  (try (have ne2_1_1 : ¬ (w2.heap.size = w1.heap.size + 1) := by omega)); (try (have nf2_1_1 : ¬ (w1.heap.size + 1 = w2.heap.size) := by omega))
  (try (have y2 : w.heap.size ≤ w2.heap.size := by omega))
  (try (have y2_1 : w1.heap.size ≤ w2.heap.size := by omega))
  (try (have z2_0_0 : w.heap.size < w2.heap.size := by omega))
  (try (have z2_0_1 : w.heap.size + 1 < w2.heap.size := by omega))
  (try (have z2_0_2 : w.heap.size + 1 + 1 < w2.heap.size := by omega))
  (try (have z2_1_0 : w1.heap.size < w2.heap.size := by omega))
  (try (have z2_1_1 : w1.heap.size + 1 < w2.heap.size := by omega))
  go_wp2_with fail
  go_at_call 97
  refine (pick_c (show Rdr _ B g _ by repeat' (first | with_reducible exact hr2 | with_reducible apply Rdr.alloc | with_reducible apply Rdr.drew1 | with_reducible apply Rdr.drew | (apply Rdr.setO (ha := by first | omega | (simp; omega)) (hB := by first | omega | (simp; omega))))) (by omega) _).mono ?_
  rintro e w3 ⟨x3, rfl, ⟨p3, q3⟩, hr3, hg3⟩
  replace q3 := q3 (by omega)
  obtain ⟨hc3, hf3, hz3⟩ := gcell hg3 hH
  (try simp at hz3)
  (try (have ne3_0_0 : ¬ (w3.heap.size = w.heap.size) := by omega)); (try (have nf3_0_0 : ¬ (w.heap.size = w3.heap.size) := by omega))
  (try (have ne3_0_1 : ¬ (w3.heap.size = w.heap.size + 1) := by omega)); (try (have nf3_0_1 : ¬ (w.heap.size + 1 = w3.heap.size) := by omega))
  (try (have ne3_1_0 : ¬ (w3.heap.size = w1.heap.size) := by omega)); (try (have nf3_1_0 : ¬ (w1.heap.size = w3.heap.size) := by omega))
  (try (have ne3_1_1 : ¬ (w3.heap.size = w1.heap.size + 1) := by omega)); (try (have nf3_1_1 : ¬ (w1.heap.size + 1 = w3.heap.size) := by omega))
  (try (have ne3_2_0 : ¬ (w3.heap.size = w2.heap.size) := by omega)); (try (have nf3_2_0 : ¬ (w2.heap.size = w3.heap.size) := by omega))
  (try (have ne3_2_1 : ¬ (w3.heap.size = w2.heap.size + 1) := by omega)); (try (have nf3_2_1 : ¬ (w2.heap.size + 1 = w3.heap.size) := by omega))
  (try (have y3 : w.heap.size ≤ w3.heap.size := by omega))
  (try (have y3_1 : w1.heap.size ≤ w3.heap.size := by omega))
  (try (have y3_2 : w2.heap.size ≤ w3.heap.size := by omega))
  (try (have z3_0_0 : w.heap.size < w3.heap.size := by omega))
  (try (have z3_0_1 : w.heap.size + 1 < w3.heap.size := by omega))
  (try (have z3_0_2 : w.heap.size + 1 + 1 < w3.heap.size := by omega))
  (try (have z3_1_0 : w1.heap.size < w3.heap.size := by omega))
  (try (have z3_1_1 : w1.heap.size + 1 < w3.heap.size := by omega))
  (try (have z3_2_0 : w2.heap.size < w3.heap.size := by omega))
  (try (have z3_2_1 : w2.heap.size + 1 < w3.heap.size := by omega))
  go_wp2_with fail
  go_at_call 97
  refine (pick_c (show Rdr _ B g _ by repeat' (first | with_reducible exact hr3 | with_reducible apply Rdr.alloc | with_reducible apply Rdr.drew1 | with_reducible apply Rdr.drew | (apply Rdr.setO (ha := by first | omega | (simp; omega)) (hB := by first | omega | (simp; omega))))) (by omega) _).mono ?_
  rintro e w4 ⟨x4, rfl, ⟨p4, q4⟩, hr4, hg4⟩
  replace q4 := q4 (by omega)
  obtain ⟨hc4, hf4, hz4⟩ := gcell hg4 hH
  (try simp at hz4)
  (try (have ne4_0_0 : ¬ (w4.heap.size = w.heap.size) := by omega)); (try (have nf4_0_0 : ¬ (w.heap.size = w4.heap.size) := by omega))
  (try (have ne4_0_1 : ¬ (w4.heap.size = w.heap.size + 1) := by omega)); (try (have nf4_0_1 : ¬ (w.heap.size + 1 = w4.heap.size) := by omega))
  (try (have ne4_1_0 : ¬ (w4.heap.size = w1.heap.size) := by omega)); (try (have nf4_1_0 : ¬ (w1.heap.size = w4.heap.size) := by omega))
  (try (have ne4_1_1 : ¬ (w4.heap.size = w1.heap.size + 1) := by omega)); (try (have nf4_1_1 : ¬ (w1.heap.size + 1 = w4.heap.size) := by omega))
  (try (have ne4_2_0 : ¬ (w4.heap.size = w2.heap.size) := by omega)); (try (have nf4_2_0 : ¬ (w2.heap.size = w4.heap.size) := by omega))
  (try (have ne4_2_1 : ¬ (w4.heap.size = w2.heap.size + 1) := by omega)); (try (have nf4_2_1 : ¬ (w2.heap.size + 1 = w4.heap.size) := by omega))
  (try (have ne4_3_0 : ¬ (w4.heap.size = w3.heap.size) := by omega)); (try (have nf4_3_0 : ¬ (w3.heap.size = w4.heap.size) := by omega))
  (try (have ne4_3_1 : ¬ (w4.heap.size = w3.heap.size + 1) := by omega)); (try (have nf4_3_1 : ¬ (w3.heap.size + 1 = w4.heap.size) := by omega))
  (try (have y4 : w.heap.size ≤ w4.heap.size := by omega))
  (try (have y4_1 : w1.heap.size ≤ w4.heap.size := by omega))
  (try (have y4_2 : w2.heap.size ≤ w4.heap.size := by omega))
  (try (have y4_3 : w3.heap.size ≤ w4.heap.size := by omega))
  (try (have z4_0_0 : w.heap.size < w4.heap.size := by omega))
  (try (have z4_0_1 : w.heap.size + 1 < w4.heap.size := by omega))
  (try (have z4_0_2 : w.heap.size + 1 + 1 < w4.heap.size := by omega))
  (try (have z4_1_0 : w1.heap.size < w4.heap.size := by omega))
  (try (have z4_1_1 : w1.heap.size + 1 < w4.heap.size := by omega))
  (try (have z4_2_0 : w2.heap.size < w4.heap.size := by omega))
  (try (have z4_2_1 : w2.heap.size + 1 < w4.heap.size := by omega))
  (try (have z4_3_0 : w3.heap.size < w4.heap.size := by omega))
  (try (have z4_3_1 : w3.heap.size + 1 < w4.heap.size := by omega))
  go_wp2_with fail
  have hrE : Rdr w4 B g (m + 4) := hr4
  clear hf1 hf2 hf3 hf4
  have r0 : w4.cell? ⟨w.heap.size, 0, none⟩ = some (.int .i64 0) := by go_simp
  have r1 : w4.cell? ⟨w.heap.size, 1, none⟩ = some (.int .i64 0) := by go_simp
  have r2 : w4.cell? ⟨w.heap.size, 2, none⟩ = some (.int .i64 0) := by go_simp
  have r3 : w4.cell? ⟨w.heap.size, 3, none⟩ = some (.int .i64 0) := by go_simp
  clear hc1 hc2 hc3 hc4
  refine bodyPost_ret (v := (.agg #[.int .i64 x3, .int .i64 x4, .int .i64 (1 + x1), .int .i64 (1 + x2)])) (by simp [results, Try.results102, go_sem, r0, r1, r2, r3, nf2_0_0, ne2_0_0]) rfl ⟨x3, x4, _, _, rfl, ?_, ?_, ?_⟩
  · exact ⟨by omega, by omega, by omega, by omega, by omega, by omega⟩
  · exact (by repeat' (first | with_reducible exact hrE | with_reducible apply Rdr.alloc | (with_reducible apply Rdr.setO (ha := by first | omega | (simp; omega)) (hB := by first | omega | (simp; omega)))))
  · exact (by repeat' (first | with_reducible exact World.grownBy.refl _ _ | with_reducible refine gb_alloc ?_ _ | with_reducible refine gb_set ?_ (by first | omega | (simp; omega)) _ | with_reducible refine gb_drewN ?_ _ | with_reducible refine gb_drew1 ?_ | with_reducible refine gb_trans ?_ (by assumption)))
/-- the same for a pane -/
def PkP (Q : Int → Int → Int → Prop) (B g m : Nat) (w : World) : Ending → World → Prop := fun e w' => ∃ b h t k, e = .returned (.agg #[.int .i64 b, .int .i64 h, .bool t, .int .i64 k]) ∧ Q b h k ∧ Rdr w' B g m ∧ w.grownBy w' (some g)
set_option maxHeartbeats 1000000 in
theorem somePane_c {w : World} {B g m : Nat} (hr : Rdr w B g m) (hm : m ≤ 900000) :
    Calls Try.prog 104 #[.pointer (some ⟨g, 0, none⟩)] w (PkP (fun b h k => 1 ≤ b ∧ b ≤ 8 ∧ 1 ≤ h ∧ h ≤ 8 ∧ 0 ≤ k ∧ k ≤ 2) B g (m + 4) w) := by
  have hH := hr.lt
  have hB := hr.ge
  have hr0 := hr
  go_enter Try.func104, Try.ntmps104
  go_wp2_with fail
  go_at_call 97
  refine (pick_c (show Rdr _ B g _ by repeat' (first | with_reducible exact hr0 | with_reducible apply Rdr.alloc | with_reducible apply Rdr.drew1 | with_reducible apply Rdr.drew | (apply Rdr.setO (ha := by first | omega | (simp; omega)) (hB := by first | omega | (simp; omega))))) (by omega) _).mono ?_
  rintro e w1 ⟨x1, rfl, ⟨p1, q1⟩, hr1, hg1⟩
  replace q1 := q1 (by omega)
  obtain ⟨hc1, hf1, hz1⟩ := gcell hg1 hH
  (try simp at hz1)
  (try (have ne1_0_0 : ¬ (w1.heap.size = w.heap.size) := by omega)); (try (have nf1_0_0 : ¬ (w.heap.size = w1.heap.size) := by omega))
  (try (have ne1_0_1 : ¬ (w1.heap.size = w.heap.size + 1) := by omega)); (try (have nf1_0_1 : ¬ (w.heap.size + 1 = w1.heap.size) := by omega))
  (try (have y1 : w.heap.size ≤ w1.heap.size := by omega))
  (try (have z1_0_0 : w.heap.size < w1.heap.size := by omega))
  (try (have z1_0_1 : w.heap.size + 1 < w1.heap.size := by omega))
  (try (have z1_0_2 : w.heap.size + 1 + 1 < w1.heap.size := by omega))
  go_wp2_with fail
  go_at_call 97
  refine (pick_c (show Rdr _ B g _ by repeat' (first | with_reducible exact hr1 | with_reducible apply Rdr.alloc | with_reducible apply Rdr.drew1 | with_reducible apply Rdr.drew | (apply Rdr.setO (ha := by first | omega | (simp; omega)) (hB := by first | omega | (simp; omega))))) (by omega) _).mono ?_
  rintro e w2 ⟨x2, rfl, ⟨p2, q2⟩, hr2, hg2⟩
  replace q2 := q2 (by omega)
  obtain ⟨hc2, hf2, hz2⟩ := gcell hg2 hH
  (try simp at hz2)
  (try (have ne2_0_0 : ¬ (w2.heap.size = w.heap.size) := by omega)); (try (have nf2_0_0 : ¬ (w.heap.size = w2.heap.size) := by omega))
  (try (have ne2_0_1 : ¬ (w2.heap.size = w.heap.size + 1) := by omega)); (try (have nf2_0_1 : ¬ (w.heap.size + 1 = w2.heap.size) := by omega))
  (try (have ne2_1_0 : ¬ (w2.heap.size = w1.heap.size) := by omega)); (try (have nf2_1_0 : ¬ (w1.heap.size = w2.heap.size) := by omega))
  (try (have ne2_1_1 : ¬ (w2.heap.size = w1.heap.size + 1) := by omega)); (try (have nf2_1_1 : ¬ (w1.heap.size + 1 = w2.heap.size) := by omega))
  (try (have y2 : w.heap.size ≤ w2.heap.size := by omega))
  (try (have y2_1 : w1.heap.size ≤ w2.heap.size := by omega))
  (try (have z2_0_0 : w.heap.size < w2.heap.size := by omega))
  (try (have z2_0_1 : w.heap.size + 1 < w2.heap.size := by omega))
  (try (have z2_0_2 : w.heap.size + 1 + 1 < w2.heap.size := by omega))
  (try (have z2_1_0 : w1.heap.size < w2.heap.size := by omega))
  (try (have z2_1_1 : w1.heap.size + 1 < w2.heap.size := by omega))
  go_wp2_with fail
  go_at_call 97
  refine (pick_c (show Rdr _ B g _ by repeat' (first | with_reducible exact hr2 | with_reducible apply Rdr.alloc | with_reducible apply Rdr.drew1 | with_reducible apply Rdr.drew | (apply Rdr.setO (ha := by first | omega | (simp; omega)) (hB := by first | omega | (simp; omega))))) (by omega) _).mono ?_
  rintro e w3 ⟨x3, rfl, ⟨p3, q3⟩, hr3, hg3⟩
  replace q3 := q3 (by omega)
  obtain ⟨hc3, hf3, hz3⟩ := gcell hg3 hH
  (try simp at hz3)
  (try (have ne3_0_0 : ¬ (w3.heap.size = w.heap.size) := by omega)); (try (have nf3_0_0 : ¬ (w.heap.size = w3.heap.size) := by omega))
  (try (have ne3_0_1 : ¬ (w3.heap.size = w.heap.size + 1) := by omega)); (try (have nf3_0_1 : ¬ (w.heap.size + 1 = w3.heap.size) := by omega))
  (try (have ne3_1_0 : ¬ (w3.heap.size = w1.heap.size) := by omega)); (try (have nf3_1_0 : ¬ (w1.heap.size = w3.heap.size) := by omega))
  (try (have ne3_1_1 : ¬ (w3.heap.size = w1.heap.size + 1) := by omega)); (try (have nf3_1_1 : ¬ (w1.heap.size + 1 = w3.heap.size) := by omega))
  (try (have ne3_2_0 : ¬ (w3.heap.size = w2.heap.size) := by omega)); (try (have nf3_2_0 : ¬ (w2.heap.size = w3.heap.size) := by omega))
  (try (have ne3_2_1 : ¬ (w3.heap.size = w2.heap.size + 1) := by omega)); (try (have nf3_2_1 : ¬ (w2.heap.size + 1 = w3.heap.size) := by omega))
  (try (have y3 : w.heap.size ≤ w3.heap.size := by omega))
  (try (have y3_1 : w1.heap.size ≤ w3.heap.size := by omega))
  (try (have y3_2 : w2.heap.size ≤ w3.heap.size := by omega))
  (try (have z3_0_0 : w.heap.size < w3.heap.size := by omega))
  (try (have z3_0_1 : w.heap.size + 1 < w3.heap.size := by omega))
  (try (have z3_0_2 : w.heap.size + 1 + 1 < w3.heap.size := by omega))
  (try (have z3_1_0 : w1.heap.size < w3.heap.size := by omega))
  (try (have z3_1_1 : w1.heap.size + 1 < w3.heap.size := by omega))
  (try (have z3_2_0 : w2.heap.size < w3.heap.size := by omega))
  (try (have z3_2_1 : w2.heap.size + 1 < w3.heap.size := by omega))
  go_wp2_with fail
  go_at_call 97
  refine (pick_c (show Rdr _ B g _ by repeat' (first | with_reducible exact hr3 | with_reducible apply Rdr.alloc | with_reducible apply Rdr.drew1 | with_reducible apply Rdr.drew | (apply Rdr.setO (ha := by first | omega | (simp; omega)) (hB := by first | omega | (simp; omega))))) (by omega) _).mono ?_
  rintro e w4 ⟨x4, rfl, ⟨p4, q4⟩, hr4, hg4⟩
  replace q4 := q4 (by omega)
  obtain ⟨hc4, hf4, hz4⟩ := gcell hg4 hH
  (try simp at hz4)
  (try (have ne4_0_0 : ¬ (w4.heap.size = w.heap.size) := by omega)); (try (have nf4_0_0 : ¬ (w.heap.size = w4.heap.size) := by omega))
  (try (have ne4_0_1 : ¬ (w4.heap.size = w.heap.size + 1) := by omega)); (try (have nf4_0_1 : ¬ (w.heap.size + 1 = w4.heap.size) := by omega))
  (try (have ne4_1_0 : ¬ (w4.heap.size = w1.heap.size) := by omega)); (try (have nf4_1_0 : ¬ (w1.heap.size = w4.heap.size) := by omega))
  (try (have ne4_1_1 : ¬ (w4.heap.size = w1.heap.size + 1) := by omega)); (try (have nf4_1_1 : ¬ (w1.heap.size + 1 = w4.heap.size) := by omega))
  (try (have ne4_2_0 : ¬ (w4.heap.size = w2.heap.size) := by omega)); (try (have nf4_2_0 : ¬ (w2.heap.size = w4.heap.size) := by omega))
  (try (have ne4_2_1 : ¬ (w4.heap.size = w2.heap.size + 1) := by omega)); (try (have nf4_2_1 : ¬ (w2.heap.size + 1 = w4.heap.size) := by omega))
  (try (have ne4_3_0 : ¬ (w4.heap.size = w3.heap.size) := by omega)); (try (have nf4_3_0 : ¬ (w3.heap.size = w4.heap.size) := by omega))
  (try (have ne4_3_1 : ¬ (w4.heap.size = w3.heap.size + 1) := by omega)); (try (have nf4_3_1 : ¬ (w3.heap.size + 1 = w4.heap.size) := by omega))
  (try (have y4 : w.heap.size ≤ w4.heap.size := by omega))
  (try (have y4_1 : w1.heap.size ≤ w4.heap.size := by omega))
  (try (have y4_2 : w2.heap.size ≤ w4.heap.size := by omega))
  (try (have y4_3 : w3.heap.size ≤ w4.heap.size := by omega))
  (try (have z4_0_0 : w.heap.size < w4.heap.size := by omega))
  (try (have z4_0_1 : w.heap.size + 1 < w4.heap.size := by omega))
  (try (have z4_0_2 : w.heap.size + 1 + 1 < w4.heap.size := by omega))
  (try (have z4_1_0 : w1.heap.size < w4.heap.size := by omega))
  (try (have z4_1_1 : w1.heap.size + 1 < w4.heap.size := by omega))
  (try (have z4_2_0 : w2.heap.size < w4.heap.size := by omega))
  (try (have z4_2_1 : w2.heap.size + 1 < w4.heap.size := by omega))
  (try (have z4_3_0 : w3.heap.size < w4.heap.size := by omega))
  (try (have z4_3_1 : w3.heap.size + 1 < w4.heap.size := by omega))
  go_wp2_with fail
  have hrE : Rdr w4 B g (m + 4) := hr4
  have k0 : w4.cell? ⟨w.heap.size, 0, none⟩ = some (.int .i64 0) := by go_simp
  have k1 : w4.cell? ⟨w.heap.size, 1, none⟩ = some (.int .i64 0) := by go_simp
  have k2 : w4.cell? ⟨w.heap.size, 2, none⟩ = some (.bool false) := by go_simp
  have k3 : w4.cell? ⟨w.heap.size, 3, none⟩ = some (.int .i64 0) := by go_simp
  clear hc1 hc2 hc3 hc4 hf1 hf2 hf3 hf4
  refine bodyPost_ret (v := (.agg #[.int .i64 (1 + x1), .int .i64 (1 + x2), .bool (x3 == 0), .int .i64 x4])) (by simp [results, Try.results104, go_sem, k0, k1, k2, k3]) rfl ⟨1 + x1, 1 + x2, _, x4, rfl, ?_, ?_, ?_⟩
  · exact ⟨by omega, by omega, by omega, by omega, by omega, by omega⟩
  · exact (by repeat' (first | with_reducible exact hrE | with_reducible apply Rdr.alloc | (with_reducible apply Rdr.setO (ha := by first | omega | (simp; omega)) (hB := by first | omega | (simp; omega)))))
  · exact (by repeat' (first | with_reducible exact World.grownBy.refl _ _ | with_reducible refine gb_alloc ?_ _ | with_reducible refine gb_set ?_ (by first | omega | (simp; omega)) _ | with_reducible refine gb_drewN ?_ _ | with_reducible refine gb_drew1 ?_ | with_reducible refine gb_trans ?_ (by assumption)))
set_option maxHeartbeats 1000000 in
theorem anyPane_c {w : World} {B g m : Nat} (hr : Rdr w B g m) (hm : m ≤ 800000) :
    Calls Try.prog 101 #[.pointer (some ⟨g, 0, none⟩)] w (PkP (fun b h k => 0 ≤ b ∧ b ≤ 201 ∧ 1 ≤ h ∧ h ≤ 8 ∧ -1 ≤ k ∧ k ≤ 10) B g (m + 6) w) := by
  have hH := hr.lt
  have hB := hr.ge
  have hr0 := hr
  go_enter Try.func101, Try.ntmps101
  go_wp2_with fail
  go_at_call 104
  refine (somePane_c (show Rdr _ B g _ by repeat' (first | with_reducible exact hr0 | with_reducible apply Rdr.alloc | with_reducible apply Rdr.drew1 | with_reducible apply Rdr.drew | (apply Rdr.setO (ha := by first | omega | (simp; omega)) (hB := by first | omega | (simp; omega))))) (by omega)).mono ?_
  rintro e w1 ⟨b1, h1, t1, k1, rfl, ⟨e1, e2, e3, e4, e5, e6⟩, hr1, hg1⟩
  obtain ⟨hc1, hf1, hz1⟩ := gcell hg1 hH
  (try simp at hz1)
  (try (have ne1_0_0 : ¬ (w1.heap.size = w.heap.size) := by omega)); (try (have nf1_0_0 : ¬ (w.heap.size = w1.heap.size) := by omega))
  (try (have ne1_0_1 : ¬ (w1.heap.size = w.heap.size + 1) := by omega)); (try (have nf1_0_1 : ¬ (w.heap.size + 1 = w1.heap.size) := by omega))
  (try (have y1 : w.heap.size ≤ w1.heap.size := by omega))
  (try (have z1_0_0 : w.heap.size < w1.heap.size := by omega))
  (try (have z1_0_1 : w.heap.size + 1 < w1.heap.size := by omega))
  (try (have z1_0_2 : w.heap.size + 1 + 1 < w1.heap.size := by omega))
  go_wp2_with fail
  go_at_call 97
  refine (pick_c (show Rdr _ B g _ by repeat' (first | with_reducible exact hr1 | with_reducible apply Rdr.alloc | with_reducible apply Rdr.drew1 | with_reducible apply Rdr.drew | (apply Rdr.setO (ha := by first | omega | (simp; omega)) (hB := by first | omega | (simp; omega))))) (by omega) _).mono ?_
  rintro e w2 ⟨x2, rfl, ⟨p2, q2⟩, hr2, hg2⟩
  replace q2 := q2 (by omega)
  obtain ⟨hc2, hf2, hz2⟩ := gcell hg2 hH
  (try simp at hz2)
  (try (have ne2_0_0 : ¬ (w2.heap.size = w.heap.size) := by omega)); (try (have nf2_0_0 : ¬ (w.heap.size = w2.heap.size) := by omega))
  (try (have ne2_0_1 : ¬ (w2.heap.size = w.heap.size + 1) := by omega)); (try (have nf2_0_1 : ¬ (w.heap.size + 1 = w2.heap.size) := by omega))
  (try (have ne2_1_0 : ¬ (w2.heap.size = w1.heap.size) := by omega)); (try (have nf2_1_0 : ¬ (w1.heap.size = w2.heap.size) := by omega))
  (try (have ne2_1_1 : ¬ (w2.heap.size = w1.heap.size + 1) := by omega)); (try (have nf2_1_1 : ¬ (w1.heap.size + 1 = w2.heap.size) := by omega))
  (try (have y2 : w.heap.size ≤ w2.heap.size := by omega))
  (try (have y2_1 : w1.heap.size ≤ w2.heap.size := by omega))
  (try (have z2_0_0 : w.heap.size < w2.heap.size := by omega))
  (try (have z2_0_1 : w.heap.size + 1 < w2.heap.size := by omega))
  (try (have z2_0_2 : w.heap.size + 1 + 1 < w2.heap.size := by omega))
  (try (have z2_1_0 : w1.heap.size < w2.heap.size := by omega))
  (try (have z2_1_1 : w1.heap.size + 1 < w2.heap.size := by omega))
  have hrE : Rdr w2 B g (m + 6) := hr2.mono (by omega)
  have k0 : w2.cell? ⟨w.heap.size, 0, none⟩ = some (.int .i64 0) := by go_simp
  have k1' : w2.cell? ⟨w.heap.size, 1, none⟩ = some (.int .i64 0) := by go_simp
  have k2 : w2.cell? ⟨w.heap.size, 2, none⟩ = some (.bool false) := by go_simp
  have k3 : w2.cell? ⟨w.heap.size, 3, none⟩ = some (.int .i64 0) := by go_simp
  by_cases t0 : x2 = 0
  · subst t0
    go_wp2_with fail
    go_at_call 98
    refine (one_c (zs := [0, 201, 200]) (show Rdr _ B g _ by repeat' (first | with_reducible exact hr2 | with_reducible apply Rdr.alloc | with_reducible apply Rdr.drew1 | with_reducible apply Rdr.drew | (apply Rdr.setO (ha := by first | omega | (simp; omega)) (hB := by first | omega | (simp; omega))))) (by omega) (by exact lit_at _ [0, 201, 200] 3 _ rfl (by omega) (by first | rfl | simp)) (by omega) (by first | omega | (simp; omega))).mono ?_
    rintro e w3 ⟨x3, rfl, p3, hr3, hg3⟩
    have q3 : 0 ≤ x3 ∧ x3 ≤ 201 := by simp at p3; omega
    clear p3
    obtain ⟨hc3, hf3, hz3⟩ := gcell hg3 hH
    (try simp at hz3)
    (try (have ne3_0_0 : ¬ (w3.heap.size = w.heap.size) := by omega)); (try (have nf3_0_0 : ¬ (w.heap.size = w3.heap.size) := by omega))
    (try (have ne3_0_1 : ¬ (w3.heap.size = w.heap.size + 1) := by omega)); (try (have nf3_0_1 : ¬ (w.heap.size + 1 = w3.heap.size) := by omega))
    (try (have ne3_1_0 : ¬ (w3.heap.size = w1.heap.size) := by omega)); (try (have nf3_1_0 : ¬ (w1.heap.size = w3.heap.size) := by omega))
    (try (have ne3_1_1 : ¬ (w3.heap.size = w1.heap.size + 1) := by omega)); (try (have nf3_1_1 : ¬ (w1.heap.size + 1 = w3.heap.size) := by omega))
    (try (have ne3_2_0 : ¬ (w3.heap.size = w2.heap.size) := by omega)); (try (have nf3_2_0 : ¬ (w2.heap.size = w3.heap.size) := by omega))
    (try (have ne3_2_1 : ¬ (w3.heap.size = w2.heap.size + 1) := by omega)); (try (have nf3_2_1 : ¬ (w2.heap.size + 1 = w3.heap.size) := by omega))
    (try (have y3 : w.heap.size ≤ w3.heap.size := by omega))
    (try (have y3_1 : w1.heap.size ≤ w3.heap.size := by omega))
    (try (have y3_2 : w2.heap.size ≤ w3.heap.size := by omega))
    (try (have z3_0_0 : w.heap.size < w3.heap.size := by omega))
    (try (have z3_0_1 : w.heap.size + 1 < w3.heap.size := by omega))
    (try (have z3_0_2 : w.heap.size + 1 + 1 < w3.heap.size := by omega))
    (try (have z3_1_0 : w1.heap.size < w3.heap.size := by omega))
    (try (have z3_1_1 : w1.heap.size + 1 < w3.heap.size := by omega))
    (try (have z3_2_0 : w2.heap.size < w3.heap.size := by omega))
    (try (have z3_2_1 : w2.heap.size + 1 < w3.heap.size := by omega))
    have r3_0 : w3.cell? ⟨w1.heap.size, 0, none⟩ = some (.int .i64 b1) := by go_simp
    have r3_1 : w3.cell? ⟨w1.heap.size, 1, none⟩ = some (.int .i64 h1) := by go_simp
    have r3_2 : w3.cell? ⟨w1.heap.size, 2, none⟩ = some (.bool t1) := by go_simp
    have r3_3 : w3.cell? ⟨w1.heap.size, 3, none⟩ = some (.int .i64 k1) := by go_simp
    go_wp2_with fail
    obtain ⟨q3a, q3b⟩ := q3
    have s0 : w3.cell? ⟨w.heap.size, 0, none⟩ = some (.int .i64 0) := by go_simp
    have s1 : w3.cell? ⟨w.heap.size, 1, none⟩ = some (.int .i64 0) := by go_simp
    have s2 : w3.cell? ⟨w.heap.size, 2, none⟩ = some (.bool false) := by go_simp
    have s3 : w3.cell? ⟨w.heap.size, 3, none⟩ = some (.int .i64 0) := by go_simp
    clear hc1 hc2 hc3 hf1 hf2 hf3
    refine bodyPost_ret (v := (.agg #[.int .i64 x3, .int .i64 h1, .bool t1, .int .i64 k1])) (by simp [results, Try.results101, go_sem, s0, s1, s2, s3, nf1_0_0, ne1_0_0]) rfl ⟨x3, _, _, _, rfl, ?_, ?_, ?_⟩
    · exact ⟨by omega, by omega, by omega, by omega, by omega, by omega⟩
    · have hrE : Rdr w3 B g (m + 6) := hr3.mono (by omega)
      exact (by repeat' (first | with_reducible exact hrE | with_reducible apply Rdr.alloc | (with_reducible apply Rdr.setO (ha := by first | omega | (simp; omega)) (hB := by first | omega | (simp; omega)))))
    · exact (by repeat' (first | with_reducible exact World.grownBy.refl _ _ | with_reducible refine gb_alloc ?_ _ | with_reducible refine gb_set ?_ (by first | omega | (simp; omega)) _ | with_reducible refine gb_drewN ?_ _ | with_reducible refine gb_drew1 ?_ | with_reducible refine gb_trans ?_ (by assumption)))
  · have t0' : (x2 == 0) = false := by simpa using t0
    by_cases t1' : x2 = 1
    · subst t1'
      go_wp2_with fail
      go_at_call 98
      refine (one_c (zs := [-1, 10, 9]) (show Rdr _ B g _ by repeat' (first | with_reducible exact hr2 | with_reducible apply Rdr.alloc | with_reducible apply Rdr.drew1 | with_reducible apply Rdr.drew | (apply Rdr.setO (ha := by first | omega | (simp; omega)) (hB := by first | omega | (simp; omega))))) (by omega) (by exact lit_at _ [-1, 10, 9] 3 _ rfl (by omega) (by first | rfl | simp)) (by omega) (by first | omega | (simp; omega))).mono ?_
      rintro e w3 ⟨x3, rfl, p3, hr3, hg3⟩
      have q3 : -1 ≤ x3 ∧ x3 ≤ 10 := by simp at p3; omega
      clear p3
      obtain ⟨hc3, hf3, hz3⟩ := gcell hg3 hH
      (try simp at hz3)
      (try (have ne3_0_0 : ¬ (w3.heap.size = w.heap.size) := by omega)); (try (have nf3_0_0 : ¬ (w.heap.size = w3.heap.size) := by omega))
      (try (have ne3_0_1 : ¬ (w3.heap.size = w.heap.size + 1) := by omega)); (try (have nf3_0_1 : ¬ (w.heap.size + 1 = w3.heap.size) := by omega))
      (try (have ne3_1_0 : ¬ (w3.heap.size = w1.heap.size) := by omega)); (try (have nf3_1_0 : ¬ (w1.heap.size = w3.heap.size) := by omega))
      (try (have ne3_1_1 : ¬ (w3.heap.size = w1.heap.size + 1) := by omega)); (try (have nf3_1_1 : ¬ (w1.heap.size + 1 = w3.heap.size) := by omega))
      (try (have ne3_2_0 : ¬ (w3.heap.size = w2.heap.size) := by omega)); (try (have nf3_2_0 : ¬ (w2.heap.size = w3.heap.size) := by omega))
      (try (have ne3_2_1 : ¬ (w3.heap.size = w2.heap.size + 1) := by omega)); (try (have nf3_2_1 : ¬ (w2.heap.size + 1 = w3.heap.size) := by omega))
      (try (have y3 : w.heap.size ≤ w3.heap.size := by omega))
      (try (have y3_1 : w1.heap.size ≤ w3.heap.size := by omega))
      (try (have y3_2 : w2.heap.size ≤ w3.heap.size := by omega))
      (try (have z3_0_0 : w.heap.size < w3.heap.size := by omega))
      (try (have z3_0_1 : w.heap.size + 1 < w3.heap.size := by omega))
      (try (have z3_0_2 : w.heap.size + 1 + 1 < w3.heap.size := by omega))
      (try (have z3_1_0 : w1.heap.size < w3.heap.size := by omega))
      (try (have z3_1_1 : w1.heap.size + 1 < w3.heap.size := by omega))
      (try (have z3_2_0 : w2.heap.size < w3.heap.size := by omega))
      (try (have z3_2_1 : w2.heap.size + 1 < w3.heap.size := by omega))
      have r3_0 : w3.cell? ⟨w1.heap.size, 0, none⟩ = some (.int .i64 b1) := by go_simp
      have r3_1 : w3.cell? ⟨w1.heap.size, 1, none⟩ = some (.int .i64 h1) := by go_simp
      have r3_2 : w3.cell? ⟨w1.heap.size, 2, none⟩ = some (.bool t1) := by go_simp
      have r3_3 : w3.cell? ⟨w1.heap.size, 3, none⟩ = some (.int .i64 k1) := by go_simp
      go_wp2_with fail
      obtain ⟨q3a, q3b⟩ := q3
      have s0 : w3.cell? ⟨w.heap.size, 0, none⟩ = some (.int .i64 0) := by go_simp
      have s1 : w3.cell? ⟨w.heap.size, 1, none⟩ = some (.int .i64 0) := by go_simp
      have s2 : w3.cell? ⟨w.heap.size, 2, none⟩ = some (.bool false) := by go_simp
      have s3 : w3.cell? ⟨w.heap.size, 3, none⟩ = some (.int .i64 0) := by go_simp
      clear hc1 hc2 hc3 hf1 hf2 hf3
      refine bodyPost_ret (v := (.agg #[.int .i64 b1, .int .i64 h1, .bool t1, .int .i64 x3])) (by simp [results, Try.results101, go_sem, s0, s1, s2, s3, nf1_0_0, ne1_0_0]) rfl ⟨_, _, _, x3, rfl, ?_, ?_, ?_⟩
      · exact ⟨by omega, by omega, by omega, by omega, by omega, by omega⟩
      · have hrE : Rdr w3 B g (m + 6) := hr3.mono (by omega)
        exact (by repeat' (first | with_reducible exact hrE | with_reducible apply Rdr.alloc | (with_reducible apply Rdr.setO (ha := by first | omega | (simp; omega)) (hB := by first | omega | (simp; omega)))))
      · exact (by repeat' (first | with_reducible exact World.grownBy.refl _ _ | with_reducible refine gb_alloc ?_ _ | with_reducible refine gb_set ?_ (by first | omega | (simp; omega)) _ | with_reducible refine gb_drewN ?_ _ | with_reducible refine gb_drew1 ?_ | with_reducible refine gb_trans ?_ (by assumption)))
    · have t1'' : (x2 == 1) = false := by simpa using t1'
      go_wp2_with fail
      clear hc1 hc2 hf1 hf2
      refine bodyPost_ret (v := (.agg #[.int .i64 b1, .int .i64 h1, .bool t1, .int .i64 k1])) (by simp [results, Try.results101, go_sem, k0, k1', k2, k3, nf1_0_0, ne1_0_0]) rfl ⟨_, _, _, _, rfl, ?_, ?_, ?_⟩
      · exact ⟨by omega, by omega, by omega, by omega, by omega, by omega⟩
      · exact (by repeat' (first | with_reducible exact hrE | with_reducible apply Rdr.alloc | (with_reducible apply Rdr.setO (ha := by first | omega | (simp; omega)) (hB := by first | omega | (simp; omega)))))
      · exact (by repeat' (first | with_reducible exact World.grownBy.refl _ _ | with_reducible refine gb_alloc ?_ _ | with_reducible refine gb_set ?_ (by first | omega | (simp; omega)) _ | with_reducible refine gb_drewN ?_ _ | with_reducible refine gb_drew1 ?_ | with_reducible refine gb_trans ?_ (by assumption)))
end Go.Proofs.Ytjanjaabcinkiaa
