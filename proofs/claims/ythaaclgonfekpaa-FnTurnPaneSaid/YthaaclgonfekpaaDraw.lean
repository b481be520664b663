/- What the arguments' generators of spec draw; no statement is proved here. -/
import Derived.Test.YthaaclgonfekpaaGen
import Derived.Test.YthaaclgonfekpaaBox
namespace Go.Proofs.Ythaaclgonfekpaa
open Go.ChangeShapes Go.WideShapes Go.ChangeAt Go.RowKit
set_option linter.unusedVariables false
set_option linter.unusedSimpArgs false

/-- a box of which Q holds is drawn -/
def DrB (Q : Int → Int → Int → Int → Prop) (w : World) : Ending → World → Prop := fun e w' => ∃ x y b h, e = .returned (.agg #[.int .i64 x, .int .i64 y, .int .i64 b, .int .i64 h]) ∧ Q x y b h ∧ Below w.heap.size w w'
def DrP (w : World) : Ending → World → Prop := fun e w' => ∃ b h t k, e = .returned (.agg #[.int .i64 b, .int .i64 h, .bool t, .int .i64 k]) ∧ Below w.heap.size w w'
def bxQ (x y b h : Int) : Prop := -1 ≤ x ∧ x ≤ 200 ∧ -1 ≤ b ∧ b ≤ 201 ∧ 0 ≤ y ∧ y ≤ 200 ∧ 1 ≤ h ∧ h ≤ 200
def DrB2 (w : World) : Ending → World → Prop := fun e w' => ∃ x y b h x' y' b' h', e = .returned (.tuple #[(.agg #[.int .i64 x, .int .i64 y, .int .i64 b, .int .i64 h]), (.agg #[.int .i64 x', .int .i64 y', .int .i64 b', .int .i64 h'])]) ∧ Below w.heap.size w w'
def DrI3 (w : World) : Ending → World → Prop := fun e w' => ∃ x y z, e = .returned (.tuple #[(.int .i64 x), (.int .i64 y), (.int .i64 z)]) ∧ Below w.heap.size w w'
def DrP2 (w : World) : Ending → World → Prop := fun e w' => ∃ b h t k x y, e = .returned (.tuple #[(.agg #[.int .i64 b, .int .i64 h, .bool t, .int .i64 k]), (.int .i64 x), (.int .i64 y)]) ∧ Below w.heap.size w w'
set_option maxHeartbeats 1000000 in
theorem DrawValidBox_c {w : World} {v : Value} (hv : BSl w v) : Calls Try.prog 19 #[v] w (DrB bxQ w) := by
  obtain ⟨B, hB0, hv⟩ : ∃ B, B ≤ w.heap.size ∧ BSlB w B v := ⟨w.heap.size, Nat.le_refl _, hv⟩
  have hv' := hv
  obtain ⟨p, n, cap, rfl, _⟩ := hv'
  go_enter Try.func19, Try.ntmps19
  go_wp2_with fail
  go_at_call 44
  refine (newReader_c _ _ B (hv.below (by (repeat' (first | exact Below.refl _ _ | refine Below.alloc ?_ ?_ _ | refine Below.setCell ?_ ?_ _ | refine Below.drew ?_ | refine below_drewN ?_ _ | refine Below.trans ?_ (Below.mono (by assumption) ?_))) <;> (try first | omega | (simp; done) | (simp at *; omega))) hB0) (by first | omega | (simp; omega))).mono ?_
  rintro e w1 ⟨g, rfl, hr1, hL, hb1⟩
  have hH := hr1.lt
  have hB := hr1.ge
  obtain ⟨hc1, hf1, -, hz1⟩ := bcell hb1
  (try simp at hz1)
  (try simp at hL)
  have y1 : w.heap.size ≤ w1.heap.size := by omega
  (try (have z1_0 : w.heap.size < w1.heap.size := by omega))
  (try (have z1_1 : w.heap.size + 1 < w1.heap.size := by omega))
  go_wp2_with fail
  go_at_call 49
  refine (anyBox_c (show Rdr _ B g _ by repeat' (first | with_reducible exact hr1 | with_reducible apply Rdr.alloc | with_reducible apply Rdr.drew1 | with_reducible apply Rdr.drew | (apply Rdr.setO (ha := by first | omega | (simp; omega)) (hB := by first | omega | (simp; omega))))) (by omega)).mono ?_
  rintro e w2 ⟨x2, v2, b2, h2, rfl, q2, hr2, hg2⟩
  obtain ⟨hc2, hf2, hz2⟩ := gcell hg2 hH
  (try simp at hz2)
  obtain ⟨hd2, he2⟩ := gcellL hg2 hL
  (try (have ne2_0_0 : ¬ (w2.heap.size = w.heap.size) := by omega)); (try (have nf2_0_0 : ¬ (w.heap.size = w2.heap.size) := by omega))
  (try (have ne2_0_1 : ¬ (w2.heap.size = w.heap.size + 1) := by omega)); (try (have nf2_0_1 : ¬ (w.heap.size + 1 = w2.heap.size) := by omega))
  (try (have ne2_1_0 : ¬ (w2.heap.size = w1.heap.size) := by omega)); (try (have nf2_1_0 : ¬ (w1.heap.size = w2.heap.size) := by omega))
  (try (have ne2_1_1 : ¬ (w2.heap.size = w1.heap.size + 1) := by omega)); (try (have nf2_1_1 : ¬ (w1.heap.size + 1 = w2.heap.size) := by omega))
  (try (have y2 : w.heap.size ≤ w2.heap.size := by omega))
  (try (have y2_1 : w1.heap.size ≤ w2.heap.size := by omega))
  (try (have z2_0_0 : w.heap.size < w2.heap.size := by omega))
  (try (have z2_0_1 : w.heap.size + 1 < w2.heap.size := by omega))
  (try (have z2_0_2 : w.heap.size + 1 + 1 < w2.heap.size := by omega))
  (try (have z2_1_0 : w1.heap.size < w2.heap.size := by omega))
  (try (have z2_1_1 : w1.heap.size + 1 < w2.heap.size := by omega))
  go_wp2_with fail
  have k0 : w2.cell? ⟨w.heap.size, 0, none⟩ = some (.int .i64 0) := by go_simp
  have k1 : w2.cell? ⟨w.heap.size, 1, none⟩ = some (.int .i64 0) := by go_simp
  have k2 : w2.cell? ⟨w.heap.size, 2, none⟩ = some (.int .i64 0) := by go_simp
  have k3 : w2.cell? ⟨w.heap.size, 3, none⟩ = some (.int .i64 0) := by go_simp
  clear hc1 hf1 hc2 hf2 hd2 he2
  refine bodyPost_ret (v := (.agg #[.int .i64 x2, .int .i64 v2, .int .i64 b2, .int .i64 h2])) (by simp [results, Try.results19, go_sem, k0, k1, k2, k3]) rfl ⟨_, _, _, _, rfl, q2, (by repeat' (first | with_reducible exact Below.refl _ _ | with_reducible refine Below.alloc ?_ (by first | omega | (simp; done) | (simp; omega)) _ | with_reducible refine Below.drew ?_ | with_reducible refine below_drewN ?_ _ | with_reducible refine Below.setCell ?_ (by first | omega | (simp; done) | (simp; omega)) _ | with_reducible refine Below.grown ?_ (by assumption) (by first | omega | (simp; done) | (simp; omega)) (by intro k hk; cases hk; omega) | with_reducible refine Below.trans ?_ (Below.mono (by assumption) (by first | omega | (simp; done) | (simp; omega)))))⟩
set_option maxHeartbeats 1000000 in
theorem DrawTurnPane_c {w : World} {v : Value} (hv : BSl w v) : Calls Try.prog 26 #[v] w (DrP w) := by
  obtain ⟨B, hB0, hv⟩ : ∃ B, B ≤ w.heap.size ∧ BSlB w B v := ⟨w.heap.size, Nat.le_refl _, hv⟩
  have hv' := hv
  obtain ⟨p, n, cap, rfl, _⟩ := hv'
  go_enter Try.func26, Try.ntmps26
  go_wp2_with fail
  go_at_call 44
  refine (newReader_c _ _ B (hv.below (by (repeat' (first | exact Below.refl _ _ | refine Below.alloc ?_ ?_ _ | refine Below.setCell ?_ ?_ _ | refine Below.drew ?_ | refine below_drewN ?_ _ | refine Below.trans ?_ (Below.mono (by assumption) ?_))) <;> (try first | omega | (simp; done) | (simp at *; omega))) hB0) (by first | omega | (simp; omega))).mono ?_
  rintro e w1 ⟨g, rfl, hr1, hL, hb1⟩
  have hH := hr1.lt
  have hB := hr1.ge
  obtain ⟨hc1, hf1, -, hz1⟩ := bcell hb1
  (try simp at hz1)
  (try simp at hL)
  have y1 : w.heap.size ≤ w1.heap.size := by omega
  (try (have z1_0 : w.heap.size < w1.heap.size := by omega))
  (try (have z1_1 : w.heap.size + 1 < w1.heap.size := by omega))
  go_wp2_with fail
  go_at_call 52
  refine (anyPane_c (show Rdr _ B g _ by repeat' (first | with_reducible exact hr1 | with_reducible apply Rdr.alloc | with_reducible apply Rdr.drew1 | with_reducible apply Rdr.drew | (apply Rdr.setO (ha := by first | omega | (simp; omega)) (hB := by first | omega | (simp; omega))))) (by omega)).mono ?_
  rintro e w2 ⟨b2, h2, t2, n2, rfl, q2, hr2, hg2⟩
  obtain ⟨hc2, hf2, hz2⟩ := gcell hg2 hH
  (try simp at hz2)
  obtain ⟨hd2, he2⟩ := gcellL hg2 hL
  (try (have ne2_0_0 : ¬ (w2.heap.size = w.heap.size) := by omega)); (try (have nf2_0_0 : ¬ (w.heap.size = w2.heap.size) := by omega))
  (try (have ne2_0_1 : ¬ (w2.heap.size = w.heap.size + 1) := by omega)); (try (have nf2_0_1 : ¬ (w.heap.size + 1 = w2.heap.size) := by omega))
  (try (have ne2_1_0 : ¬ (w2.heap.size = w1.heap.size) := by omega)); (try (have nf2_1_0 : ¬ (w1.heap.size = w2.heap.size) := by omega))
  (try (have ne2_1_1 : ¬ (w2.heap.size = w1.heap.size + 1) := by omega)); (try (have nf2_1_1 : ¬ (w1.heap.size + 1 = w2.heap.size) := by omega))
  (try (have y2 : w.heap.size ≤ w2.heap.size := by omega))
  (try (have y2_1 : w1.heap.size ≤ w2.heap.size := by omega))
  (try (have z2_0_0 : w.heap.size < w2.heap.size := by omega))
  (try (have z2_0_1 : w.heap.size + 1 < w2.heap.size := by omega))
  (try (have z2_0_2 : w.heap.size + 1 + 1 < w2.heap.size := by omega))
  (try (have z2_1_0 : w1.heap.size < w2.heap.size := by omega))
  (try (have z2_1_1 : w1.heap.size + 1 < w2.heap.size := by omega))
  go_wp2_with fail
  have k0 : w2.cell? ⟨w.heap.size, 0, none⟩ = some (.int .i64 0) := by go_simp
  have k1 : w2.cell? ⟨w.heap.size, 1, none⟩ = some (.int .i64 0) := by go_simp
  have k2 : w2.cell? ⟨w.heap.size, 2, none⟩ = some (.bool false) := by go_simp
  have k3 : w2.cell? ⟨w.heap.size, 3, none⟩ = some (.int .i64 0) := by go_simp
  clear hc1 hf1 hc2 hf2 hd2 he2
  refine bodyPost_ret (v := (.agg #[.int .i64 b2, .int .i64 h2, .bool t2, .int .i64 n2])) (by simp [results, Try.results26, go_sem, k0, k1, k2, k3]) rfl ⟨_, _, _, _, rfl, (by repeat' (first | with_reducible exact Below.refl _ _ | with_reducible refine Below.alloc ?_ (by first | omega | (simp; done) | (simp; omega)) _ | with_reducible refine Below.drew ?_ | with_reducible refine below_drewN ?_ _ | with_reducible refine Below.setCell ?_ (by first | omega | (simp; done) | (simp; omega)) _ | with_reducible refine Below.grown ?_ (by assumption) (by first | omega | (simp; done) | (simp; omega)) (by intro k hk; cases hk; omega) | with_reducible refine Below.trans ?_ (Below.mono (by assumption) (by first | omega | (simp; done) | (simp; omega)))))⟩
set_option maxHeartbeats 1000000 in
theorem DrawMeetOf_c {w : World} {v : Value} (hv : BSl w v) : Calls Try.prog 32 #[v] w (DrB2 w) := by
  obtain ⟨B, hB0, hv⟩ : ∃ B, B ≤ w.heap.size ∧ BSlB w B v := ⟨w.heap.size, Nat.le_refl _, hv⟩
  have hv' := hv
  obtain ⟨p, n, cap, rfl, _⟩ := hv'
  go_enter Try.func32, Try.ntmps32
  go_wp2_with fail
  go_at_call 44
  refine (newReader_c _ _ B (hv.below (by (repeat' (first | exact Below.refl _ _ | refine Below.alloc ?_ ?_ _ | refine Below.setCell ?_ ?_ _ | refine Below.drew ?_ | refine below_drewN ?_ _ | refine Below.trans ?_ (Below.mono (by assumption) ?_))) <;> (try first | omega | (simp; done) | (simp at *; omega))) hB0) (by first | omega | (simp; omega))).mono ?_
  rintro e w1 ⟨g, rfl, hr1, hL, hb1⟩
  have hH := hr1.lt
  have hB := hr1.ge
  obtain ⟨hc1, hf1, -, hz1⟩ := bcell hb1
  (try simp at hz1)
  (try simp at hL)
  have y1 : w.heap.size ≤ w1.heap.size := by omega
  (try (have z1_0 : w.heap.size < w1.heap.size := by omega))
  (try (have z1_1 : w.heap.size + 1 < w1.heap.size := by omega))
  go_wp2_with fail
  go_at_call 49
  refine (anyBox_c (show Rdr _ B g _ by repeat' (first | with_reducible exact hr1 | with_reducible apply Rdr.alloc | with_reducible apply Rdr.drew1 | with_reducible apply Rdr.drew | (apply Rdr.setO (ha := by first | omega | (simp; omega)) (hB := by first | omega | (simp; omega))))) (by omega)).mono ?_
  rintro e w2 ⟨x2, v2, b2, h2, rfl, q2, hr2, hg2⟩
  obtain ⟨hc2, hf2, hz2⟩ := gcell hg2 hH
  (try simp at hz2)
  obtain ⟨hd2, he2⟩ := gcellL hg2 hL
  (try (have ne2_0_0 : ¬ (w2.heap.size = w.heap.size) := by omega)); (try (have nf2_0_0 : ¬ (w.heap.size = w2.heap.size) := by omega))
  (try (have ne2_0_1 : ¬ (w2.heap.size = w.heap.size + 1) := by omega)); (try (have nf2_0_1 : ¬ (w.heap.size + 1 = w2.heap.size) := by omega))
  (try (have ne2_1_0 : ¬ (w2.heap.size = w1.heap.size) := by omega)); (try (have nf2_1_0 : ¬ (w1.heap.size = w2.heap.size) := by omega))
  (try (have ne2_1_1 : ¬ (w2.heap.size = w1.heap.size + 1) := by omega)); (try (have nf2_1_1 : ¬ (w1.heap.size + 1 = w2.heap.size) := by omega))
  (try (have y2 : w.heap.size ≤ w2.heap.size := by omega))
  (try (have y2_1 : w1.heap.size ≤ w2.heap.size := by omega))
  (try (have z2_0_0 : w.heap.size < w2.heap.size := by omega))
  (try (have z2_0_1 : w.heap.size + 1 < w2.heap.size := by omega))
  (try (have z2_0_2 : w.heap.size + 1 + 1 < w2.heap.size := by omega))
  (try (have z2_1_0 : w1.heap.size < w2.heap.size := by omega))
  (try (have z2_1_1 : w1.heap.size + 1 < w2.heap.size := by omega))
  go_wp2_with fail
  go_at_call 49
  refine (anyBox_c (show Rdr _ B g _ by repeat' (first | with_reducible exact hr2 | with_reducible apply Rdr.alloc | with_reducible apply Rdr.drew1 | with_reducible apply Rdr.drew | (apply Rdr.setO (ha := by first | omega | (simp; omega)) (hB := by first | omega | (simp; omega))))) (by omega)).mono ?_
  rintro e w3 ⟨x3, v3, b3, h3, rfl, q3, hr3, hg3⟩
  obtain ⟨hc3, hf3, hz3⟩ := gcell hg3 hH
  (try simp at hz3)
  obtain ⟨hd3, he3⟩ := gcellL hg3 hL
  (try (have ne3_0_0 : ¬ (w3.heap.size = w.heap.size) := by omega)); (try (have nf3_0_0 : ¬ (w.heap.size = w3.heap.size) := by omega))
  (try (have ne3_0_1 : ¬ (w3.heap.size = w.heap.size + 1) := by omega)); (try (have nf3_0_1 : ¬ (w.heap.size + 1 = w3.heap.size) := by omega))
  (try (have ne3_1_0 : ¬ (w3.heap.size = w1.heap.size) := by omega)); (try (have nf3_1_0 : ¬ (w1.heap.size = w3.heap.size) := by omega))
  (try (have ne3_1_1 : ¬ (w3.heap.size = w1.heap.size + 1) := by omega)); (try (have nf3_1_1 : ¬ (w1.heap.size + 1 = w3.heap.size) := by omega))
  (try (have ne3_2_0 : ¬ (w3.heap.size = w2.heap.size) := by omega)); (try (have nf3_2_0 : ¬ (w2.heap.size = w3.heap.size) := by omega))
  (try (have ne3_2_1 : ¬ (w3.heap.size = w2.heap.size + 1) := by omega)); (try (have nf3_2_1 : ¬ (w2.heap.size + 1 = w3.heap.size) := by omega))
  (try (have y3 : w.heap.size ≤ w3.heap.size := by omega))
  (try (have y3_1 : w1.heap.size ≤ w3.heap.size := by omega))
  (try (have y3_2 : w2.heap.size ≤ w3.heap.size := by omega))
  (try (have z3_0_0 : w.heap.size < w3.heap.size := by omega))
  (try (have z3_0_1 : w.heap.size + 1 < w3.heap.size := by omega))
  (try (have z3_0_2 : w.heap.size + 1 + 1 < w3.heap.size := by omega))
  (try (have z3_1_0 : w1.heap.size < w3.heap.size := by omega))
  (try (have z3_1_1 : w1.heap.size + 1 < w3.heap.size := by omega))
  (try (have z3_2_0 : w2.heap.size < w3.heap.size := by omega))
  (try (have z3_2_1 : w2.heap.size + 1 < w3.heap.size := by omega))
  go_wp2_with fail
  have k0 : w3.cell? ⟨w.heap.size, 0, none⟩ = some (.int .i64 0) := by go_simp
  have k1 : w3.cell? ⟨w.heap.size, 1, none⟩ = some (.int .i64 0) := by go_simp
  have k2 : w3.cell? ⟨w.heap.size, 2, none⟩ = some (.int .i64 0) := by go_simp
  have k3 : w3.cell? ⟨w.heap.size, 3, none⟩ = some (.int .i64 0) := by go_simp
  have l0 : w3.cell? ⟨w.heap.size + 1, 0, none⟩ = some (.int .i64 0) := by go_simp
  have l1 : w3.cell? ⟨w.heap.size + 1, 1, none⟩ = some (.int .i64 0) := by go_simp
  have l2 : w3.cell? ⟨w.heap.size + 1, 2, none⟩ = some (.int .i64 0) := by go_simp
  have l3 : w3.cell? ⟨w.heap.size + 1, 3, none⟩ = some (.int .i64 0) := by go_simp
  clear hc1 hf1 hc2 hf2 hd2 he2 hc3 hf3 hd3 he3
  refine bodyPost_ret (v := .tuple #[(.agg #[.int .i64 x2, .int .i64 v2, .int .i64 b2, .int .i64 h2]), (.agg #[.int .i64 x3, .int .i64 v3, .int .i64 b3, .int .i64 h3])]) (by simp [results, Try.results32, go_sem, k0, k1, k2, k3, l0, l1, l2, l3]) rfl ⟨_, _, _, _, _, _, _, _, rfl, (by repeat' (first | with_reducible exact Below.refl _ _ | with_reducible refine Below.alloc ?_ (by first | omega | (simp; done) | (simp; omega)) _ | with_reducible refine Below.drew ?_ | with_reducible refine below_drewN ?_ _ | with_reducible refine Below.setCell ?_ (by first | omega | (simp; done) | (simp; omega)) _ | with_reducible refine Below.grown ?_ (by assumption) (by first | omega | (simp; done) | (simp; omega)) (by intro k hk; cases hk; omega) | with_reducible refine Below.trans ?_ (Below.mono (by assumption) (by first | omega | (simp; done) | (simp; omega)))))⟩
theorem DrawLeftOver_c {w : World} {v : Value} (hv : BSl w v) : Calls Try.prog 37 #[v] w (DrB2 w) := by
  go_enter Try.func37, Try.ntmps37
  go_wp2_with fail
  go_at_call 32
  refine (DrawMeetOf_c (hv.below (by (repeat' (first | exact Below.refl _ _ | refine Below.alloc ?_ ?_ _ | refine Below.setCell ?_ ?_ _ | refine Below.drew ?_ | refine below_drewN ?_ _ | refine Below.trans ?_ (Below.mono (by assumption) ?_))) <;> (try first | omega | (simp; done) | (simp at *; omega))))).mono ?_
  rintro e w1 ⟨x2, v2, b2, h2, x3, v3, b3, h3, rfl, hb1⟩
  obtain ⟨hc1, hf1, -, hz1⟩ := bcell hb1
  (try simp at hz1)
  (try (have z1_0 : w.heap.size < w1.heap.size := by omega))
  (try (have z1_1 : w.heap.size + 1 < w1.heap.size := by omega))
  go_wp2_with fail
  have k0 : w1.cell? ⟨w.heap.size, 0, none⟩ = some (.int .i64 0) := by go_simp
  have k1 : w1.cell? ⟨w.heap.size, 1, none⟩ = some (.int .i64 0) := by go_simp
  have k2 : w1.cell? ⟨w.heap.size, 2, none⟩ = some (.int .i64 0) := by go_simp
  have k3 : w1.cell? ⟨w.heap.size, 3, none⟩ = some (.int .i64 0) := by go_simp
  have l0 : w1.cell? ⟨w.heap.size + 1, 0, none⟩ = some (.int .i64 0) := by go_simp
  have l1 : w1.cell? ⟨w.heap.size + 1, 1, none⟩ = some (.int .i64 0) := by go_simp
  have l2 : w1.cell? ⟨w.heap.size + 1, 2, none⟩ = some (.int .i64 0) := by go_simp
  have l3 : w1.cell? ⟨w.heap.size + 1, 3, none⟩ = some (.int .i64 0) := by go_simp
  refine bodyPost_ret (v := .tuple #[(.agg #[.int .i64 x2, .int .i64 v2, .int .i64 b2, .int .i64 h2]), (.agg #[.int .i64 x3, .int .i64 v3, .int .i64 b3, .int .i64 h3])]) (by simp [results, Try.results37, go_sem, k0, k1, k2, k3, l0, l1, l2, l3]) rfl ⟨_, _, _, _, _, _, _, _, rfl, (by repeat' (first | with_reducible exact Below.refl _ _ | with_reducible refine Below.alloc ?_ (by first | omega | (simp; done) | (simp; omega)) _ | with_reducible refine Below.drew ?_ | with_reducible refine below_drewN ?_ _ | with_reducible refine Below.setCell ?_ (by first | omega | (simp; done) | (simp; omega)) _ | with_reducible refine Below.grown ?_ (by assumption) (by first | omega | (simp; done) | (simp; omega)) (by intro k hk; cases hk; omega) | with_reducible refine Below.trans ?_ (Below.mono (by assumption) (by first | omega | (simp; done) | (simp; omega)))))⟩
set_option maxHeartbeats 1000000 in
theorem DrawScaleLength_c {w : World} {v : Value} (hv : BSl w v) : Calls Try.prog 16 #[v] w (DrI3 w) := by
  obtain ⟨B, hB0, hv⟩ : ∃ B, B ≤ w.heap.size ∧ BSlB w B v := ⟨w.heap.size, Nat.le_refl _, hv⟩
  have hv' := hv
  obtain ⟨p, n, cap, rfl, _⟩ := hv'
  go_enter Try.func16, Try.ntmps16
  go_wp2_with fail
  go_at_call 44
  refine (newReader_c _ _ B (hv.below (by (repeat' (first | exact Below.refl _ _ | refine Below.alloc ?_ ?_ _ | refine Below.setCell ?_ ?_ _ | refine Below.drew ?_ | refine below_drewN ?_ _ | refine Below.trans ?_ (Below.mono (by assumption) ?_))) <;> (try first | omega | (simp; done) | (simp at *; omega))) hB0) (by first | omega | (simp; omega))).mono ?_
  rintro e w1 ⟨g, rfl, hr1, hL, hb1⟩
  have hH := hr1.lt
  have hB := hr1.ge
  obtain ⟨hc1, hf1, -, hz1⟩ := bcell hb1
  (try simp at hz1)
  (try simp at hL)
  have y1 : w.heap.size ≤ w1.heap.size := by omega
  (try (have z1_0 : w.heap.size < w1.heap.size := by omega))
  (try (have z1_1 : w.heap.size + 1 < w1.heap.size := by omega))
  go_wp2_with fail
  go_at_call 45
  refine (one_c (zs := [10, 12, 7, 30, 200, 0]) (show Rdr _ B g _ by repeat' (first | with_reducible exact hr1 | with_reducible apply Rdr.alloc | with_reducible apply Rdr.drew1 | with_reducible apply Rdr.drew | (apply Rdr.setO (ha := by first | omega | (simp; omega)) (hB := by first | omega | (simp; omega))))) (by omega) (by exact lit_at _ [10, 12, 7, 30, 200, 0] 6 _ rfl (by omega) (by first | rfl | simp)) (by omega) (by first | omega | (simp; omega))).mono ?_
  rintro e w2 ⟨x2, rfl, p2, hr2, hg2⟩
  have q2 : 0 ≤ x2 ∧ x2 ≤ 200 := by simp at p2; omega
  clear p2
  obtain ⟨q2a, q2b⟩ := q2
  obtain ⟨hc2, hf2, hz2⟩ := gcell hg2 hH
  (try simp at hz2)
  obtain ⟨hd2, he2⟩ := gcellL hg2 hL
  (try (have ne2_0_0 : ¬ (w2.heap.size = w.heap.size) := by omega)); (try (have nf2_0_0 : ¬ (w.heap.size = w2.heap.size) := by omega))
  (try (have ne2_0_1 : ¬ (w2.heap.size = w.heap.size + 1) := by omega)); (try (have nf2_0_1 : ¬ (w.heap.size + 1 = w2.heap.size) := by omega))
  (try (have ne2_1_0 : ¬ (w2.heap.size = w1.heap.size) := by omega)); (try (have nf2_1_0 : ¬ (w1.heap.size = w2.heap.size) := by omega))
  (try (have ne2_1_1 : ¬ (w2.heap.size = w1.heap.size + 1) := by omega)); (try (have nf2_1_1 : ¬ (w1.heap.size + 1 = w2.heap.size) := by omega))
  (try (have y2 : w.heap.size ≤ w2.heap.size := by omega))
  (try (have y2_1 : w1.heap.size ≤ w2.heap.size := by omega))
  (try (have z2_0_0 : w.heap.size < w2.heap.size := by omega))
  (try (have z2_0_1 : w.heap.size + 1 < w2.heap.size := by omega))
  (try (have z2_0_2 : w.heap.size + 1 + 1 < w2.heap.size := by omega))
  (try (have z2_1_0 : w1.heap.size < w2.heap.size := by omega))
  (try (have z2_1_1 : w1.heap.size + 1 < w2.heap.size := by omega))
  go_wp2_with fail
  go_at_call 45
  refine (one_c (zs := [1, 2, 3, 4, 6, 0, 7]) (show Rdr _ B g _ by repeat' (first | with_reducible exact hr2 | with_reducible apply Rdr.alloc | with_reducible apply Rdr.drew1 | with_reducible apply Rdr.drew | (apply Rdr.setO (ha := by first | omega | (simp; omega)) (hB := by first | omega | (simp; omega))))) (by omega) (by exact lit_at _ [1, 2, 3, 4, 6, 0, 7] 7 _ rfl (by omega) (by first | rfl | simp)) (by omega) (by first | omega | (simp; omega))).mono ?_
  rintro e w3 ⟨x3, rfl, p3, hr3, hg3⟩
  obtain ⟨hc3, hf3, hz3⟩ := gcell hg3 hH
  (try simp at hz3)
  obtain ⟨hd3, he3⟩ := gcellL hg3 hL
  (try (have ne3_0_0 : ¬ (w3.heap.size = w.heap.size) := by omega)); (try (have nf3_0_0 : ¬ (w.heap.size = w3.heap.size) := by omega))
  (try (have ne3_0_1 : ¬ (w3.heap.size = w.heap.size + 1) := by omega)); (try (have nf3_0_1 : ¬ (w.heap.size + 1 = w3.heap.size) := by omega))
  (try (have ne3_1_0 : ¬ (w3.heap.size = w1.heap.size) := by omega)); (try (have nf3_1_0 : ¬ (w1.heap.size = w3.heap.size) := by omega))
  (try (have ne3_1_1 : ¬ (w3.heap.size = w1.heap.size + 1) := by omega)); (try (have nf3_1_1 : ¬ (w1.heap.size + 1 = w3.heap.size) := by omega))
  (try (have ne3_2_0 : ¬ (w3.heap.size = w2.heap.size) := by omega)); (try (have nf3_2_0 : ¬ (w2.heap.size = w3.heap.size) := by omega))
  (try (have ne3_2_1 : ¬ (w3.heap.size = w2.heap.size + 1) := by omega)); (try (have nf3_2_1 : ¬ (w2.heap.size + 1 = w3.heap.size) := by omega))
  (try (have y3 : w.heap.size ≤ w3.heap.size := by omega))
  (try (have y3_1 : w1.heap.size ≤ w3.heap.size := by omega))
  (try (have y3_2 : w2.heap.size ≤ w3.heap.size := by omega))
  (try (have z3_0_0 : w.heap.size < w3.heap.size := by omega))
  (try (have z3_0_1 : w.heap.size + 1 < w3.heap.size := by omega))
  (try (have z3_0_2 : w.heap.size + 1 + 1 < w3.heap.size := by omega))
  (try (have z3_1_0 : w1.heap.size < w3.heap.size := by omega))
  (try (have z3_1_1 : w1.heap.size + 1 < w3.heap.size := by omega))
  (try (have z3_2_0 : w2.heap.size < w3.heap.size := by omega))
  (try (have z3_2_1 : w2.heap.size + 1 < w3.heap.size := by omega))
  go_wp2_with fail
  go_at_call 46
  refine (pick_c (show Rdr _ B g _ by repeat' (first | with_reducible exact hr3 | with_reducible apply Rdr.alloc | with_reducible apply Rdr.drew1 | with_reducible apply Rdr.drew | (apply Rdr.setO (ha := by first | omega | (simp; omega)) (hB := by first | omega | (simp; omega))))) (by omega) _).mono ?_
  rintro e w4 ⟨x4, rfl, ⟨p4, q4⟩, hr4, hg4⟩
  replace q4 := q4 (by omega)
  obtain ⟨hc4, hf4, hz4⟩ := gcell hg4 hH
  (try simp at hz4)
  obtain ⟨hd4, he4⟩ := gcellL hg4 hL
  (try (have ne4_0_0 : ¬ (w4.heap.size = w.heap.size) := by omega)); (try (have nf4_0_0 : ¬ (w.heap.size = w4.heap.size) := by omega))
  (try (have ne4_0_1 : ¬ (w4.heap.size = w.heap.size + 1) := by omega)); (try (have nf4_0_1 : ¬ (w.heap.size + 1 = w4.heap.size) := by omega))
  (try (have ne4_1_0 : ¬ (w4.heap.size = w1.heap.size) := by omega)); (try (have nf4_1_0 : ¬ (w1.heap.size = w4.heap.size) := by omega))
  (try (have ne4_1_1 : ¬ (w4.heap.size = w1.heap.size + 1) := by omega)); (try (have nf4_1_1 : ¬ (w1.heap.size + 1 = w4.heap.size) := by omega))
  (try (have ne4_2_0 : ¬ (w4.heap.size = w2.heap.size) := by omega)); (try (have nf4_2_0 : ¬ (w2.heap.size = w4.heap.size) := by omega))
  (try (have ne4_2_1 : ¬ (w4.heap.size = w2.heap.size + 1) := by omega)); (try (have nf4_2_1 : ¬ (w2.heap.size + 1 = w4.heap.size) := by omega))
  (try (have ne4_3_0 : ¬ (w4.heap.size = w3.heap.size) := by omega)); (try (have nf4_3_0 : ¬ (w3.heap.size = w4.heap.size) := by omega))
  (try (have ne4_3_1 : ¬ (w4.heap.size = w3.heap.size + 1) := by omega)); (try (have nf4_3_1 : ¬ (w3.heap.size + 1 = w4.heap.size) := by omega))
  (try (have y4 : w.heap.size ≤ w4.heap.size := by omega))
  (try (have y4_1 : w1.heap.size ≤ w4.heap.size := by omega))
  (try (have y4_2 : w2.heap.size ≤ w4.heap.size := by omega))
  (try (have y4_3 : w3.heap.size ≤ w4.heap.size := by omega))
  (try (have z4_0_0 : w.heap.size < w4.heap.size := by omega))
  (try (have z4_0_1 : w.heap.size + 1 < w4.heap.size := by omega))
  (try (have z4_0_2 : w.heap.size + 1 + 1 < w4.heap.size := by omega))
  (try (have z4_1_0 : w1.heap.size < w4.heap.size := by omega))
  (try (have z4_1_1 : w1.heap.size + 1 < w4.heap.size := by omega))
  (try (have z4_2_0 : w2.heap.size < w4.heap.size := by omega))
  (try (have z4_2_1 : w2.heap.size + 1 < w4.heap.size := by omega))
  (try (have z4_3_0 : w3.heap.size < w4.heap.size := by omega))
  (try (have z4_3_1 : w3.heap.size + 1 < w4.heap.size := by omega))
  go_wp2_with fail
  go_at_call 45
  refine (one_c (zs := [x4, x2 / 2, x2 / 2 + 1, x2, x2 / 3, x2 + 1, 0]) (show Rdr _ B g _ by repeat' (first | with_reducible exact hr4 | with_reducible apply Rdr.alloc | with_reducible apply Rdr.drew1 | with_reducible apply Rdr.drew | (apply Rdr.setO (ha := by first | omega | (simp; omega)) (hB := by first | omega | (simp; omega))))) (by omega) (by exact lit_at _ [x4, x2 / 2, x2 / 2 + 1, x2, x2 / 3, x2 + 1, 0] 7 _ rfl (by omega) (by first | rfl | simp)) (by omega) (by first | omega | (simp; omega))).mono ?_
  rintro e w5 ⟨x5, rfl, p5, hr5, hg5⟩
  obtain ⟨hc5, hf5, hz5⟩ := gcell hg5 hH
  (try simp at hz5)
  obtain ⟨hd5, he5⟩ := gcellL hg5 hL
  (try (have ne5_0_0 : ¬ (w5.heap.size = w.heap.size) := by omega)); (try (have nf5_0_0 : ¬ (w.heap.size = w5.heap.size) := by omega))
  (try (have ne5_0_1 : ¬ (w5.heap.size = w.heap.size + 1) := by omega)); (try (have nf5_0_1 : ¬ (w.heap.size + 1 = w5.heap.size) := by omega))
  (try (have ne5_1_0 : ¬ (w5.heap.size = w1.heap.size) := by omega)); (try (have nf5_1_0 : ¬ (w1.heap.size = w5.heap.size) := by omega))
  (try (have ne5_1_1 : ¬ (w5.heap.size = w1.heap.size + 1) := by omega)); (try (have nf5_1_1 : ¬ (w1.heap.size + 1 = w5.heap.size) := by omega))
  (try (have ne5_2_0 : ¬ (w5.heap.size = w2.heap.size) := by omega)); (try (have nf5_2_0 : ¬ (w2.heap.size = w5.heap.size) := by omega))
  (try (have ne5_2_1 : ¬ (w5.heap.size = w2.heap.size + 1) := by omega)); (try (have nf5_2_1 : ¬ (w2.heap.size + 1 = w5.heap.size) := by omega))
  (try (have ne5_3_0 : ¬ (w5.heap.size = w3.heap.size) := by omega)); (try (have nf5_3_0 : ¬ (w3.heap.size = w5.heap.size) := by omega))
  (try (have ne5_3_1 : ¬ (w5.heap.size = w3.heap.size + 1) := by omega)); (try (have nf5_3_1 : ¬ (w3.heap.size + 1 = w5.heap.size) := by omega))
  (try (have ne5_4_0 : ¬ (w5.heap.size = w4.heap.size) := by omega)); (try (have nf5_4_0 : ¬ (w4.heap.size = w5.heap.size) := by omega))
  (try (have ne5_4_1 : ¬ (w5.heap.size = w4.heap.size + 1) := by omega)); (try (have nf5_4_1 : ¬ (w4.heap.size + 1 = w5.heap.size) := by omega))
  (try (have y5 : w.heap.size ≤ w5.heap.size := by omega))
  (try (have y5_1 : w1.heap.size ≤ w5.heap.size := by omega))
  (try (have y5_2 : w2.heap.size ≤ w5.heap.size := by omega))
  (try (have y5_3 : w3.heap.size ≤ w5.heap.size := by omega))
  (try (have y5_4 : w4.heap.size ≤ w5.heap.size := by omega))
  (try (have z5_0_0 : w.heap.size < w5.heap.size := by omega))
  (try (have z5_0_1 : w.heap.size + 1 < w5.heap.size := by omega))
  (try (have z5_0_2 : w.heap.size + 1 + 1 < w5.heap.size := by omega))
  (try (have z5_1_0 : w1.heap.size < w5.heap.size := by omega))
  (try (have z5_1_1 : w1.heap.size + 1 < w5.heap.size := by omega))
  (try (have z5_2_0 : w2.heap.size < w5.heap.size := by omega))
  (try (have z5_2_1 : w2.heap.size + 1 < w5.heap.size := by omega))
  (try (have z5_3_0 : w3.heap.size < w5.heap.size := by omega))
  (try (have z5_3_1 : w3.heap.size + 1 < w5.heap.size := by omega))
  (try (have z5_4_0 : w4.heap.size < w5.heap.size := by omega))
  (try (have z5_4_1 : w4.heap.size + 1 < w5.heap.size := by omega))
  go_wp2_with fail
  refine bodyPost_ret (v := .tuple #[(.int .i64 x3), (.int .i64 x2), (.int .i64 x5)]) (by simp [results, Try.results16, go_sem]) rfl ⟨_, _, _, rfl, (by repeat' (first | with_reducible exact Below.refl _ _ | with_reducible refine Below.alloc ?_ (by first | omega | (simp; done) | (simp; omega)) _ | with_reducible refine Below.drew ?_ | with_reducible refine below_drewN ?_ _ | with_reducible refine Below.setCell ?_ (by first | omega | (simp; done) | (simp; omega)) _ | with_reducible refine Below.grown ?_ (by assumption) (by first | omega | (simp; done) | (simp; omega)) (by intro k hk; cases hk; omega) | with_reducible refine Below.trans ?_ (Below.mono (by assumption) (by first | omega | (simp; done) | (simp; omega)))))⟩
set_option maxHeartbeats 1000000 in
theorem DrawInsideOf_c {w : World} {v : Value} (hv : BSl w v) : Calls Try.prog 29 #[v] w (DrB2 w) := by
  obtain ⟨B, hB0, hv⟩ : ∃ B, B ≤ w.heap.size ∧ BSlB w B v := ⟨w.heap.size, Nat.le_refl _, hv⟩
  have hv' := hv
  obtain ⟨p, n, cap, rfl, _⟩ := hv'
  go_enter Try.func29, Try.ntmps29
  go_wp2_with fail
  go_at_call 44
  refine (newReader_c _ _ B (hv.below (by (repeat' (first | exact Below.refl _ _ | refine Below.alloc ?_ ?_ _ | refine Below.setCell ?_ ?_ _ | refine Below.drew ?_ | refine below_drewN ?_ _ | refine Below.trans ?_ (Below.mono (by assumption) ?_))) <;> (try first | omega | (simp; done) | (simp at *; omega))) hB0) (by first | omega | (simp; omega))).mono ?_
  rintro e w1 ⟨g, rfl, hr1, hL, hb1⟩
  have hH := hr1.lt
  have hB := hr1.ge
  obtain ⟨hc1, hf1, -, hz1⟩ := bcell hb1
  (try simp at hz1)
  (try simp at hL)
  have y1 : w.heap.size ≤ w1.heap.size := by omega
  (try (have z1_0 : w.heap.size < w1.heap.size := by omega))
  (try (have z1_1 : w.heap.size + 1 < w1.heap.size := by omega))
  go_wp2_with fail
  go_at_call 49
  refine (anyBox_c (show Rdr _ B g _ by repeat' (first | with_reducible exact hr1 | with_reducible apply Rdr.alloc | with_reducible apply Rdr.drew1 | with_reducible apply Rdr.drew | (apply Rdr.setO (ha := by first | omega | (simp; omega)) (hB := by first | omega | (simp; omega))))) (by omega)).mono ?_
  rintro e w2 ⟨x2, v2, b2, h2, rfl, q2, hr2, hg2⟩
  obtain ⟨hc2, hf2, hz2⟩ := gcell hg2 hH
  (try simp at hz2)
  obtain ⟨hd2, he2⟩ := gcellL hg2 hL
  (try (have ne2_0_0 : ¬ (w2.heap.size = w.heap.size) := by omega)); (try (have nf2_0_0 : ¬ (w.heap.size = w2.heap.size) := by omega))
  (try (have ne2_0_1 : ¬ (w2.heap.size = w.heap.size + 1) := by omega)); (try (have nf2_0_1 : ¬ (w.heap.size + 1 = w2.heap.size) := by omega))
  (try (have ne2_1_0 : ¬ (w2.heap.size = w1.heap.size) := by omega)); (try (have nf2_1_0 : ¬ (w1.heap.size = w2.heap.size) := by omega))
  (try (have ne2_1_1 : ¬ (w2.heap.size = w1.heap.size + 1) := by omega)); (try (have nf2_1_1 : ¬ (w1.heap.size + 1 = w2.heap.size) := by omega))
  (try (have y2 : w.heap.size ≤ w2.heap.size := by omega))
  (try (have y2_1 : w1.heap.size ≤ w2.heap.size := by omega))
  (try (have z2_0_0 : w.heap.size < w2.heap.size := by omega))
  (try (have z2_0_1 : w.heap.size + 1 < w2.heap.size := by omega))
  (try (have z2_0_2 : w.heap.size + 1 + 1 < w2.heap.size := by omega))
  (try (have z2_1_0 : w1.heap.size < w2.heap.size := by omega))
  (try (have z2_1_1 : w1.heap.size + 1 < w2.heap.size := by omega))
  go_wp2_with fail
  go_at_call 50
  refine (spec_validBox_c _ _ _ _ _).mono ?_
  rintro e w3 ⟨rfl, hb3⟩
  obtain ⟨hc3, hf3, -, hz3⟩ := bcell hb3
  (try simp at hz3)
  have hr3 : Rdr w3 B g 8 := Rdr.below (by repeat' (first | exact hr2 | apply Rdr.alloc)) hb3
  (try (have z3_0 : w.heap.size < w3.heap.size := by omega))
  (try (have z3_1 : w.heap.size + 1 < w3.heap.size := by omega))
  (try (have z3_2 : w2.heap.size < w3.heap.size := by omega))
  have y3_1 : w1.heap.size ≤ w3.heap.size := by omega
  cases hv : vBox x2 v2 b2 h2
  · go_wp2_with fail
    have p0 : w3.cell? ⟨w2.heap.size, 0, none⟩ = some (.int .i64 x2) := by go_simp
    have p1 : w3.cell? ⟨w2.heap.size, 1, none⟩ = some (.int .i64 v2) := by go_simp
    have p2 : w3.cell? ⟨w2.heap.size, 2, none⟩ = some (.int .i64 b2) := by go_simp
    have p3 : w3.cell? ⟨w2.heap.size, 3, none⟩ = some (.int .i64 h2) := by go_simp
    have k0 : w3.cell? ⟨w.heap.size, 0, none⟩ = some (.int .i64 0) := by go_simp
    have k1 : w3.cell? ⟨w.heap.size, 1, none⟩ = some (.int .i64 0) := by go_simp
    have k2 : w3.cell? ⟨w.heap.size, 2, none⟩ = some (.int .i64 0) := by go_simp
    have k3 : w3.cell? ⟨w.heap.size, 3, none⟩ = some (.int .i64 0) := by go_simp
    have l0 : w3.cell? ⟨w.heap.size + 1, 0, none⟩ = some (.int .i64 0) := by go_simp
    have l1 : w3.cell? ⟨w.heap.size + 1, 1, none⟩ = some (.int .i64 0) := by go_simp
    have l2 : w3.cell? ⟨w.heap.size + 1, 2, none⟩ = some (.int .i64 0) := by go_simp
    have l3 : w3.cell? ⟨w.heap.size + 1, 3, none⟩ = some (.int .i64 0) := by go_simp
    have fk0 : w3.frozen? ⟨w.heap.size, 0, none⟩ = false := by go_simp
    have fl0 : w3.frozen? ⟨w.heap.size + 1, 0, none⟩ = false := by go_simp
    have fk1 : w3.frozen? ⟨w.heap.size, 1, none⟩ = false := by go_simp
    have fl1 : w3.frozen? ⟨w.heap.size + 1, 1, none⟩ = false := by go_simp
    have fk2 : w3.frozen? ⟨w.heap.size, 2, none⟩ = false := by go_simp
    have fl2 : w3.frozen? ⟨w.heap.size + 1, 2, none⟩ = false := by go_simp
    have fk3 : w3.frozen? ⟨w.heap.size, 3, none⟩ = false := by go_simp
    have fl3 : w3.frozen? ⟨w.heap.size + 1, 3, none⟩ = false := by go_simp
    clear hc1 hf1 hc2 hf2 hd2 he2 hc3 hf3
    go_region_with (first | (go_at_call 49; refine (anyBox_c (show Rdr _ B g _ by repeat' (first | with_reducible assumption | with_reducible apply Rdr.drew1 | with_reducible apply Rdr.drew | with_reducible apply Rdr.alloc)) (by omega)).mono ?_; rintro e w4 ⟨x4, v4, b4, h4, rfl, q4, hr4, hg4⟩; have hz4 := hg4.size; (try simp at hz4); obtain ⟨ka, fa⟩ := gb_at (b := w2.heap.size) hg4 (by first | omega | (simp; done) | (simp; omega)) (by omega); obtain ⟨kb, fb⟩ := gb_at (b := w.heap.size) hg4 (by first | omega | (simp; done) | (simp; omega)) (by omega); obtain ⟨kc, fc⟩ := gb_at (b := w.heap.size + 1) hg4 (by first | omega | (simp; done) | (simp; omega)) (by omega)))
    all_goals (go_wp2_with fail; refine bodyPost_ret (v := .tuple #[(.agg #[.int .i64 x4, .int .i64 v4, .int .i64 b4, .int .i64 h4]), (.agg #[.int .i64 x2, .int .i64 v2, .int .i64 b2, .int .i64 h2])]) (by simp [results, Try.results29, go_sem, kb, kc, k0, k1, k2, k3, l0, l1, l2, l3]) rfl ⟨_, _, _, _, _, _, _, _, rfl, (by repeat' (first | with_reducible exact Below.refl _ _ | with_reducible refine Below.alloc ?_ (by first | omega | (simp; done) | (simp; omega)) _ | with_reducible refine Below.drew ?_ | with_reducible refine below_drewN ?_ _ | with_reducible refine Below.setCell ?_ (by first | omega | (simp; done) | (simp; omega)) _ | with_reducible refine Below.grown ?_ (by assumption) (by first | omega | (simp; done) | (simp; omega)) (by intro k hk; cases hk; omega) | with_reducible refine Below.trans ?_ (Below.mono (by assumption) (by first | omega | (simp; done) | (simp; omega)))))⟩)
  · go_wp2_with fail
    go_at_call 46
    refine (pick_c (show Rdr _ B g _ by repeat' (first | with_reducible exact hr3 | with_reducible apply Rdr.alloc | with_reducible apply Rdr.drew1 | with_reducible apply Rdr.drew | (apply Rdr.setO (ha := by first | omega | (simp; omega)) (hB := by first | omega | (simp; omega))))) (by omega) _).mono ?_
    rintro e w4 ⟨x4, rfl, ⟨p4, q4⟩, hr4, hg4⟩
    replace q4 := q4 (by omega)
    obtain ⟨hc4, hf4, hz4⟩ := gcell hg4 hH
    (try simp at hz4)
    obtain ⟨hd4, he4⟩ := gcellL hg4 hL
    (try (have ne4_0_0 : ¬ (w4.heap.size = w.heap.size) := by omega)); (try (have nf4_0_0 : ¬ (w.heap.size = w4.heap.size) := by omega))
    (try (have ne4_0_1 : ¬ (w4.heap.size = w.heap.size + 1) := by omega)); (try (have nf4_0_1 : ¬ (w.heap.size + 1 = w4.heap.size) := by omega))
    (try (have ne4_1_0 : ¬ (w4.heap.size = w1.heap.size) := by omega)); (try (have nf4_1_0 : ¬ (w1.heap.size = w4.heap.size) := by omega))
    (try (have ne4_1_1 : ¬ (w4.heap.size = w1.heap.size + 1) := by omega)); (try (have nf4_1_1 : ¬ (w1.heap.size + 1 = w4.heap.size) := by omega))
    (try (have ne4_2_0 : ¬ (w4.heap.size = w2.heap.size) := by omega)); (try (have nf4_2_0 : ¬ (w2.heap.size = w4.heap.size) := by omega))
    (try (have ne4_2_1 : ¬ (w4.heap.size = w2.heap.size + 1) := by omega)); (try (have nf4_2_1 : ¬ (w2.heap.size + 1 = w4.heap.size) := by omega))
    (try (have ne4_3_0 : ¬ (w4.heap.size = w3.heap.size) := by omega)); (try (have nf4_3_0 : ¬ (w3.heap.size = w4.heap.size) := by omega))
    (try (have ne4_3_1 : ¬ (w4.heap.size = w3.heap.size + 1) := by omega)); (try (have nf4_3_1 : ¬ (w3.heap.size + 1 = w4.heap.size) := by omega))
    (try (have y4 : w.heap.size ≤ w4.heap.size := by omega))
    (try (have y4_1 : w1.heap.size ≤ w4.heap.size := by omega))
    (try (have y4_2 : w2.heap.size ≤ w4.heap.size := by omega))
    (try (have y4_3 : w3.heap.size ≤ w4.heap.size := by omega))
    (try (have z4_0_0 : w.heap.size < w4.heap.size := by omega))
    (try (have z4_0_1 : w.heap.size + 1 < w4.heap.size := by omega))
    (try (have z4_0_2 : w.heap.size + 1 + 1 < w4.heap.size := by omega))
    (try (have z4_1_0 : w1.heap.size < w4.heap.size := by omega))
    (try (have z4_1_1 : w1.heap.size + 1 < w4.heap.size := by omega))
    (try (have z4_2_0 : w2.heap.size < w4.heap.size := by omega))
    (try (have z4_2_1 : w2.heap.size + 1 < w4.heap.size := by omega))
    (try (have z4_3_0 : w3.heap.size < w4.heap.size := by omega))
    (try (have z4_3_1 : w3.heap.size + 1 < w4.heap.size := by omega))
    by_cases t0 : x4 = 0
    · subst t0
      obtain ⟨i1, i2, i3, i4, i5, i6, i7, i8⟩ := vBox_bd hv
      go_wp2_with fail
      go_at_call 53
      refine (someBox_c (show Rdr _ B g _ by repeat' (first | with_reducible exact hr4 | with_reducible apply Rdr.alloc | with_reducible apply Rdr.drew1 | with_reducible apply Rdr.drew | (apply Rdr.setO (ha := by first | omega | (simp; omega)) (hB := by first | omega | (simp; omega))))) (by omega) _ _ ⟨i1, i2⟩ ⟨i3, i4⟩).mono ?_
      rintro e w5 ⟨x5, v5, b5, h5, rfl, ⟨e1, e2, e3, e4, e5, e6⟩, hr5, hg5⟩
      obtain ⟨hc5, hf5, hz5⟩ := gcell hg5 hH
      (try simp at hz5)
      obtain ⟨hd5, he5⟩ := gcellL hg5 hL
      (try (have ne5_0_0 : ¬ (w5.heap.size = w.heap.size) := by omega)); (try (have nf5_0_0 : ¬ (w.heap.size = w5.heap.size) := by omega))
      (try (have ne5_0_1 : ¬ (w5.heap.size = w.heap.size + 1) := by omega)); (try (have nf5_0_1 : ¬ (w.heap.size + 1 = w5.heap.size) := by omega))
      (try (have ne5_1_0 : ¬ (w5.heap.size = w1.heap.size) := by omega)); (try (have nf5_1_0 : ¬ (w1.heap.size = w5.heap.size) := by omega))
      (try (have ne5_1_1 : ¬ (w5.heap.size = w1.heap.size + 1) := by omega)); (try (have nf5_1_1 : ¬ (w1.heap.size + 1 = w5.heap.size) := by omega))
      (try (have ne5_2_0 : ¬ (w5.heap.size = w2.heap.size) := by omega)); (try (have nf5_2_0 : ¬ (w2.heap.size = w5.heap.size) := by omega))
      (try (have ne5_2_1 : ¬ (w5.heap.size = w2.heap.size + 1) := by omega)); (try (have nf5_2_1 : ¬ (w2.heap.size + 1 = w5.heap.size) := by omega))
      (try (have ne5_3_0 : ¬ (w5.heap.size = w3.heap.size) := by omega)); (try (have nf5_3_0 : ¬ (w3.heap.size = w5.heap.size) := by omega))
      (try (have ne5_3_1 : ¬ (w5.heap.size = w3.heap.size + 1) := by omega)); (try (have nf5_3_1 : ¬ (w3.heap.size + 1 = w5.heap.size) := by omega))
      (try (have ne5_4_0 : ¬ (w5.heap.size = w4.heap.size) := by omega)); (try (have nf5_4_0 : ¬ (w4.heap.size = w5.heap.size) := by omega))
      (try (have ne5_4_1 : ¬ (w5.heap.size = w4.heap.size + 1) := by omega)); (try (have nf5_4_1 : ¬ (w4.heap.size + 1 = w5.heap.size) := by omega))
      (try (have y5 : w.heap.size ≤ w5.heap.size := by omega))
      (try (have y5_1 : w1.heap.size ≤ w5.heap.size := by omega))
      (try (have y5_2 : w2.heap.size ≤ w5.heap.size := by omega))
      (try (have y5_3 : w3.heap.size ≤ w5.heap.size := by omega))
      (try (have y5_4 : w4.heap.size ≤ w5.heap.size := by omega))
      (try (have z5_0_0 : w.heap.size < w5.heap.size := by omega))
      (try (have z5_0_1 : w.heap.size + 1 < w5.heap.size := by omega))
      (try (have z5_0_2 : w.heap.size + 1 + 1 < w5.heap.size := by omega))
      (try (have z5_1_0 : w1.heap.size < w5.heap.size := by omega))
      (try (have z5_1_1 : w1.heap.size + 1 < w5.heap.size := by omega))
      (try (have z5_2_0 : w2.heap.size < w5.heap.size := by omega))
      (try (have z5_2_1 : w2.heap.size + 1 < w5.heap.size := by omega))
      (try (have z5_3_0 : w3.heap.size < w5.heap.size := by omega))
      (try (have z5_3_1 : w3.heap.size + 1 < w5.heap.size := by omega))
      (try (have z5_4_0 : w4.heap.size < w5.heap.size := by omega))
      (try (have z5_4_1 : w4.heap.size + 1 < w5.heap.size := by omega))
      go_wp2_with fail
      have k0 : w5.cell? ⟨w.heap.size, 0, none⟩ = some (.int .i64 0) := by go_simp
      have k1 : w5.cell? ⟨w.heap.size, 1, none⟩ = some (.int .i64 0) := by go_simp
      have k2 : w5.cell? ⟨w.heap.size, 2, none⟩ = some (.int .i64 0) := by go_simp
      have k3 : w5.cell? ⟨w.heap.size, 3, none⟩ = some (.int .i64 0) := by go_simp
      have l0 : w5.cell? ⟨w.heap.size + 1, 0, none⟩ = some (.int .i64 0) := by go_simp
      have l1 : w5.cell? ⟨w.heap.size + 1, 1, none⟩ = some (.int .i64 0) := by go_simp
      have l2 : w5.cell? ⟨w.heap.size + 1, 2, none⟩ = some (.int .i64 0) := by go_simp
      have l3 : w5.cell? ⟨w.heap.size + 1, 3, none⟩ = some (.int .i64 0) := by go_simp
      have u0 : w5.cell? ⟨w2.heap.size, 0, none⟩ = some (.int .i64 x2) := by go_simp
      have u1 : w5.cell? ⟨w2.heap.size, 1, none⟩ = some (.int .i64 v2) := by go_simp
      have u2 : w5.cell? ⟨w2.heap.size, 2, none⟩ = some (.int .i64 b2) := by go_simp
      have u3 : w5.cell? ⟨w2.heap.size, 3, none⟩ = some (.int .i64 h2) := by go_simp
      go_region
      all_goals go_wp2_with fail
      all_goals (refine bodyPost_ret (v := .tuple #[(.agg #[.int .i64 (x5 + x2), .int .i64 (v5 + v2), .int .i64 b5, .int .i64 h5]), (.agg #[.int .i64 x2, .int .i64 v2, .int .i64 b2, .int .i64 h2])]) (by simp [results, Try.results29, go_sem, z5_0_0, z5_0_1, nf5_0_0, ne5_0_0, nf5_0_1, ne5_0_1, k0, k1, k2, k3, l0, l1, l2, l3]) rfl ⟨_, _, _, _, _, _, _, _, rfl, (by repeat' (first | with_reducible exact Below.refl _ _ | with_reducible refine Below.alloc ?_ (by first | omega | (simp; done) | (simp; omega)) _ | with_reducible refine Below.drew ?_ | with_reducible refine below_drewN ?_ _ | with_reducible refine Below.setCell ?_ (by first | omega | (simp; done) | (simp; omega)) _ | with_reducible refine Below.grown ?_ (by assumption) (by first | omega | (simp; done) | (simp; omega)) (by intro k hk; cases hk; omega) | with_reducible refine Below.trans ?_ (Below.mono (by assumption) (by first | omega | (simp; done) | (simp; omega)))))⟩)
    · have t0' : (x4 == 0) = false := by simpa using t0
      go_wp2_with fail
      have p0 : w4.cell? ⟨w2.heap.size, 0, none⟩ = some (.int .i64 x2) := by go_simp
      have p1 : w4.cell? ⟨w2.heap.size, 1, none⟩ = some (.int .i64 v2) := by go_simp
      have p2 : w4.cell? ⟨w2.heap.size, 2, none⟩ = some (.int .i64 b2) := by go_simp
      have p3 : w4.cell? ⟨w2.heap.size, 3, none⟩ = some (.int .i64 h2) := by go_simp
      have k0 : w4.cell? ⟨w.heap.size, 0, none⟩ = some (.int .i64 0) := by go_simp
      have k1 : w4.cell? ⟨w.heap.size, 1, none⟩ = some (.int .i64 0) := by go_simp
      have k2 : w4.cell? ⟨w.heap.size, 2, none⟩ = some (.int .i64 0) := by go_simp
      have k3 : w4.cell? ⟨w.heap.size, 3, none⟩ = some (.int .i64 0) := by go_simp
      have l0 : w4.cell? ⟨w.heap.size + 1, 0, none⟩ = some (.int .i64 0) := by go_simp
      have l1 : w4.cell? ⟨w.heap.size + 1, 1, none⟩ = some (.int .i64 0) := by go_simp
      have l2 : w4.cell? ⟨w.heap.size + 1, 2, none⟩ = some (.int .i64 0) := by go_simp
      have l3 : w4.cell? ⟨w.heap.size + 1, 3, none⟩ = some (.int .i64 0) := by go_simp
      have fk0 : w4.frozen? ⟨w.heap.size, 0, none⟩ = false := by go_simp
      have fl0 : w4.frozen? ⟨w.heap.size + 1, 0, none⟩ = false := by go_simp
      have fk1 : w4.frozen? ⟨w.heap.size, 1, none⟩ = false := by go_simp
      have fl1 : w4.frozen? ⟨w.heap.size + 1, 1, none⟩ = false := by go_simp
      have fk2 : w4.frozen? ⟨w.heap.size, 2, none⟩ = false := by go_simp
      have fl2 : w4.frozen? ⟨w.heap.size + 1, 2, none⟩ = false := by go_simp
      have fk3 : w4.frozen? ⟨w.heap.size, 3, none⟩ = false := by go_simp
      have fl3 : w4.frozen? ⟨w.heap.size + 1, 3, none⟩ = false := by go_simp
      clear hc1 hf1 hc2 hf2 hd2 he2 hc3 hf3 hc4 hf4 hd4 he4
      go_region_with (first | (go_at_call 49; refine (anyBox_c (show Rdr _ B g _ by repeat' (first | with_reducible assumption | with_reducible apply Rdr.drew1 | with_reducible apply Rdr.drew | with_reducible apply Rdr.alloc)) (by omega)).mono ?_; rintro e w5 ⟨x5, v5, b5, h5, rfl, q5, hr5, hg5⟩; have hz5 := hg5.size; (try simp at hz5); obtain ⟨ka, fa⟩ := gb_at (b := w2.heap.size) hg5 (by first | omega | (simp; done) | (simp; omega)) (by omega); obtain ⟨kb, fb⟩ := gb_at (b := w.heap.size) hg5 (by first | omega | (simp; done) | (simp; omega)) (by omega); obtain ⟨kc, fc⟩ := gb_at (b := w.heap.size + 1) hg5 (by first | omega | (simp; done) | (simp; omega)) (by omega)))
      all_goals (go_wp2_with fail; refine bodyPost_ret (v := .tuple #[(.agg #[.int .i64 x5, .int .i64 v5, .int .i64 b5, .int .i64 h5]), (.agg #[.int .i64 x2, .int .i64 v2, .int .i64 b2, .int .i64 h2])]) (by simp [results, Try.results29, go_sem, kb, kc, k0, k1, k2, k3, l0, l1, l2, l3]) rfl ⟨_, _, _, _, _, _, _, _, rfl, (by repeat' (first | with_reducible exact Below.refl _ _ | with_reducible refine Below.alloc ?_ (by first | omega | (simp; done) | (simp; omega)) _ | with_reducible refine Below.drew ?_ | with_reducible refine below_drewN ?_ _ | with_reducible refine Below.setCell ?_ (by first | omega | (simp; done) | (simp; omega)) _ | with_reducible refine Below.grown ?_ (by assumption) (by first | omega | (simp; done) | (simp; omega)) (by intro k hk; cases hk; omega) | with_reducible refine Below.trans ?_ (Below.mono (by assumption) (by first | omega | (simp; done) | (simp; omega)))))⟩)
end Go.Proofs.Ythaaclgonfekpaa
