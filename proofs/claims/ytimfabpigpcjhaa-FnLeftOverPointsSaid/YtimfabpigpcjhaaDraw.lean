/- What the arguments' generators of spec draw; no statement is proved here. -/
import Derived.Test.YtimfabpigpcjhaaGen
import Derived.Test.YtimfabpigpcjhaaBox
namespace Go.Proofs.Ytimfabpigpcjhaa
open Go.ChangeShapes Go.WideShapes Go.ChangeAt Go.RowKit
set_option linter.unusedVariables false
set_option linter.unusedSimpArgs false

/-- a box of which Q holds is drawn -/
def DrB (Q : Int → Int → Int → Int → Prop) (w : World) : Ending → World → Prop := fun e w' => ∃ x y b h, e = .returned (.agg #[.int .i64 x, .int .i64 y, .int .i64 b, .int .i64 h]) ∧ Q x y b h ∧ Below w.heap.size w w'
def DrP (w : World) : Ending → World → Prop := fun e w' => ∃ b h t k, e = .returned (.agg #[.int .i64 b, .int .i64 h, .bool t, .int .i64 k]) ∧ Below w.heap.size w w'
def bxQ (x y b h : Int) : Prop := -1 ≤ x ∧ x ≤ 200 ∧ -1 ≤ b ∧ b ≤ 201 ∧ 0 ≤ y ∧ y ≤ 200 ∧ 1 ≤ h ∧ h ≤ 200
def DrB2 (w : World) : Ending → World → Prop := fun e w' => ∃ x y b h x' y' b' h', e = .returned (.tuple #[(.agg #[.int .i64 x, .int .i64 y, .int .i64 b, .int .i64 h]), (.agg #[.int .i64 x', .int .i64 y', .int .i64 b', .int .i64 h'])]) ∧ Below w.heap.size w w'
def DrI3 (w : World) : Ending → World → Prop := fun e w' => ∃ x y z, e = .returned (.tuple #[(.int .i64 x), (.int .i64 y), (.int .i64 z)]) ∧ Below w.heap.size w w'
def DrP2 (w : World) : Ending → World → Prop := fun e w' => ∃ b h t k x y, e = .returned (.tuple #[(.agg #[.int .i64 b, .int .i64 h, .bool t, .int .i64 k]), (.int .i64 x), (.int .i64 y)]) ∧ Below w.heap.size w w'
set_option maxHeartbeats 1000000 in
theorem DrawMeetOf_c {w : World} {v : Value} (hv : BSl w v) : Calls Try.prog 51 #[v] w (DrB2 w) := by
  obtain ⟨B, hB0, hv⟩ : ∃ B, B ≤ w.heap.size ∧ BSlB w B v := ⟨w.heap.size, Nat.le_refl _, hv⟩
  have hv' := hv
  obtain ⟨p, n, cap, rfl, _⟩ := hv'
  go_enter Try.func51, Try.ntmps51
  go_wp2_with fail
  go_at_call 42
  refine (newReader_c _ _ B (hv.below (by (repeat' (first | exact Below.refl _ _ | refine Below.alloc ?_ ?_ _ | refine Below.setCell ?_ ?_ _ | refine Below.drew ?_ | refine below_drewN ?_ _ | refine Below.trans ?_ (Below.mono (by assumption) ?_))) <;> (try first | omega | (simp; done) | (simp at *; omega))) hB0) (by first | omega | (simp; omega))).mono ?_
  rintro e w1 ⟨g, rfl, hr1, hL, hb1⟩
  have hH := hr1.lt
  have hB := hr1.ge
  obtain ⟨hc1, hf1, -, hz1⟩ := bcell hb1
  (try simp at hz1)
  (try simp at hL)
  have y1 : w.heap.size ≤ w1.heap.size := by omega
  (try (have z1_0 : w.heap.size < w1.heap.size := by omega))
  (try (have z1_1 : w.heap.size + 1 < w1.heap.size := by omega))
  go_wp2_with fail
  go_at_call 67
  refine (anyBox_c (show Rdr _ B g _ by repeat' (first | with_reducible exact hr1 | with_reducible apply Rdr.alloc | with_reducible apply Rdr.drew1 | with_reducible apply Rdr.drew | (apply Rdr.setO (ha := by first | omega | (simp; omega)) (hB := by first | omega | (simp; omega))))) (by omega)).mono ?_
  rintro e w2 ⟨x2, v2, b2, h2, rfl, q2, hr2, hg2⟩
  obtain ⟨hc2, hf2, hz2⟩ := gcell hg2 hH
  (try simp at hz2)
  obtain ⟨hd2, he2⟩ := gcellL hg2 hL
  (try (have ne2_0_0 : ¬ (w2.heap.size = w.heap.size) := by omega)); (try (have nf2_0_0 : ¬ (w.heap.size = w2.heap.size) := by omega))
  (try (have ne2_0_1 : ¬ (w2.heap.size = w.heap.size + 1) := by omega)); (try (have nf2_0_1 : ¬ (w.heap.size + 1 = w2.heap.size) := by omega))
  (try (have ne2_1_0 : ¬ (w2.heap.size = w1.heap.size) := by omega)); (try (have nf2_1_0 : ¬ (w1.heap.size = w2.heap.size) := by omega))
  (try (have ne2_1_1 : ¬ (w2.heap.size = w1.heap.size + 1) := by omega)); (try (have nf2_1_1 : ¬ (w1.heap.size + 1 = w2.heap.size) := by omega))
  (try (have y2 : w.heap.size ≤ w2.heap.size := by omega))
  (try (have y2_1 : w1.heap.size ≤ w2.heap.size := by omega))
  (try (have z2_0_0 : w.heap.size < w2.heap.size := by omega))
  (try (have z2_0_1 : w.heap.size + 1 < w2.heap.size := by omega))
  (try (have z2_0_2 : w.heap.size + 1 + 1 < w2.heap.size := by omega))
  (try (have z2_1_0 : w1.heap.size < w2.heap.size := by omega))
  (try (have z2_1_1 : w1.heap.size + 1 < w2.heap.size := by omega))
  go_wp2_with fail
  go_at_call 67
  refine (anyBox_c (show Rdr _ B g _ by repeat' (first | with_reducible exact hr2 | with_reducible apply Rdr.alloc | with_reducible apply Rdr.drew1 | with_reducible apply Rdr.drew | (apply Rdr.setO (ha := by first | omega | (simp; omega)) (hB := by first | omega | (simp; omega))))) (by omega)).mono ?_
  rintro e w3 ⟨x3, v3, b3, h3, rfl, q3, hr3, hg3⟩
  obtain ⟨hc3, hf3, hz3⟩ := gcell hg3 hH
  (try simp at hz3)
  obtain ⟨hd3, he3⟩ := gcellL hg3 hL
  (try (have ne3_0_0 : ¬ (w3.heap.size = w.heap.size) := by omega)); (try (have nf3_0_0 : ¬ (w.heap.size = w3.heap.size) := by omega))
  (try (have ne3_0_1 : ¬ (w3.heap.size = w.heap.size + 1) := by omega)); (try (have nf3_0_1 : ¬ (w.heap.size + 1 = w3.heap.size) := by omega))
  (try (have ne3_1_0 : ¬ (w3.heap.size = w1.heap.size) := by omega)); (try (have nf3_1_0 : ¬ (w1.heap.size = w3.heap.size) := by omega))
  (try (have ne3_1_1 : ¬ (w3.heap.size = w1.heap.size + 1) := by omega)); (try (have nf3_1_1 : ¬ (w1.heap.size + 1 = w3.heap.size) := by omega))
  (try (have ne3_2_0 : ¬ (w3.heap.size = w2.heap.size) := by omega)); (try (have nf3_2_0 : ¬ (w2.heap.size = w3.heap.size) := by omega))
  (try (have ne3_2_1 : ¬ (w3.heap.size = w2.heap.size + 1) := by omega)); (try (have nf3_2_1 : ¬ (w2.heap.size + 1 = w3.heap.size) := by omega))
  (try (have y3 : w.heap.size ≤ w3.heap.size := by omega))
  (try (have y3_1 : w1.heap.size ≤ w3.heap.size := by omega))
  (try (have y3_2 : w2.heap.size ≤ w3.heap.size := by omega))
  (try (have z3_0_0 : w.heap.size < w3.heap.size := by omega))
  (try (have z3_0_1 : w.heap.size + 1 < w3.heap.size := by omega))
  (try (have z3_0_2 : w.heap.size + 1 + 1 < w3.heap.size := by omega))
  (try (have z3_1_0 : w1.heap.size < w3.heap.size := by omega))
  (try (have z3_1_1 : w1.heap.size + 1 < w3.heap.size := by omega))
  (try (have z3_2_0 : w2.heap.size < w3.heap.size := by omega))
  (try (have z3_2_1 : w2.heap.size + 1 < w3.heap.size := by omega))
  go_wp2_with fail
  have k0 : w3.cell? ⟨w.heap.size, 0, none⟩ = some (.int .i64 0) := by go_simp
  have k1 : w3.cell? ⟨w.heap.size, 1, none⟩ = some (.int .i64 0) := by go_simp
  have k2 : w3.cell? ⟨w.heap.size, 2, none⟩ = some (.int .i64 0) := by go_simp
  have k3 : w3.cell? ⟨w.heap.size, 3, none⟩ = some (.int .i64 0) := by go_simp
  have l0 : w3.cell? ⟨w.heap.size + 1, 0, none⟩ = some (.int .i64 0) := by go_simp
  have l1 : w3.cell? ⟨w.heap.size + 1, 1, none⟩ = some (.int .i64 0) := by go_simp
  have l2 : w3.cell? ⟨w.heap.size + 1, 2, none⟩ = some (.int .i64 0) := by go_simp
  have l3 : w3.cell? ⟨w.heap.size + 1, 3, none⟩ = some (.int .i64 0) := by go_simp
  clear hc1 hf1 hc2 hf2 hd2 he2 hc3 hf3 hd3 he3
  refine bodyPost_ret (v := .tuple #[(.agg #[.int .i64 x2, .int .i64 v2, .int .i64 b2, .int .i64 h2]), (.agg #[.int .i64 x3, .int .i64 v3, .int .i64 b3, .int .i64 h3])]) (by simp [results, Try.results51, go_sem, k0, k1, k2, k3, l0, l1, l2, l3]) rfl ⟨_, _, _, _, _, _, _, _, rfl, (by repeat' (first | with_reducible exact Below.refl _ _ | with_reducible refine Below.alloc ?_ (by first | omega | (simp; done) | (simp; omega)) _ | with_reducible refine Below.drew ?_ | with_reducible refine below_drewN ?_ _ | with_reducible refine Below.setCell ?_ (by first | omega | (simp; done) | (simp; omega)) _ | with_reducible refine Below.grown ?_ (by assumption) (by first | omega | (simp; done) | (simp; omega)) (by intro k hk; cases hk; omega) | with_reducible refine Below.trans ?_ (Below.mono (by assumption) (by first | omega | (simp; done) | (simp; omega)))))⟩
theorem DrawLeftOver_c {w : World} {v : Value} (hv : BSl w v) : Calls Try.prog 18 #[v] w (DrB2 w) := by
  go_enter Try.func18, Try.ntmps18
  go_wp2_with fail
  go_at_call 51
  refine (DrawMeetOf_c (hv.below (by (repeat' (first | exact Below.refl _ _ | refine Below.alloc ?_ ?_ _ | refine Below.setCell ?_ ?_ _ | refine Below.drew ?_ | refine below_drewN ?_ _ | refine Below.trans ?_ (Below.mono (by assumption) ?_))) <;> (try first | omega | (simp; done) | (simp at *; omega))))).mono ?_
  rintro e w1 ⟨x2, v2, b2, h2, x3, v3, b3, h3, rfl, hb1⟩
  obtain ⟨hc1, hf1, -, hz1⟩ := bcell hb1
  (try simp at hz1)
  (try (have z1_0 : w.heap.size < w1.heap.size := by omega))
  (try (have z1_1 : w.heap.size + 1 < w1.heap.size := by omega))
  go_wp2_with fail
  have k0 : w1.cell? ⟨w.heap.size, 0, none⟩ = some (.int .i64 0) := by go_simp
  have k1 : w1.cell? ⟨w.heap.size, 1, none⟩ = some (.int .i64 0) := by go_simp
  have k2 : w1.cell? ⟨w.heap.size, 2, none⟩ = some (.int .i64 0) := by go_simp
  have k3 : w1.cell? ⟨w.heap.size, 3, none⟩ = some (.int .i64 0) := by go_simp
  have l0 : w1.cell? ⟨w.heap.size + 1, 0, none⟩ = some (.int .i64 0) := by go_simp
  have l1 : w1.cell? ⟨w.heap.size + 1, 1, none⟩ = some (.int .i64 0) := by go_simp
  have l2 : w1.cell? ⟨w.heap.size + 1, 2, none⟩ = some (.int .i64 0) := by go_simp
  have l3 : w1.cell? ⟨w.heap.size + 1, 3, none⟩ = some (.int .i64 0) := by go_simp
  refine bodyPost_ret (v := .tuple #[(.agg #[.int .i64 x2, .int .i64 v2, .int .i64 b2, .int .i64 h2]), (.agg #[.int .i64 x3, .int .i64 v3, .int .i64 b3, .int .i64 h3])]) (by simp [results, Try.results18, go_sem, k0, k1, k2, k3, l0, l1, l2, l3]) rfl ⟨_, _, _, _, _, _, _, _, rfl, (by repeat' (first | with_reducible exact Below.refl _ _ | with_reducible refine Below.alloc ?_ (by first | omega | (simp; done) | (simp; omega)) _ | with_reducible refine Below.drew ?_ | with_reducible refine below_drewN ?_ _ | with_reducible refine Below.setCell ?_ (by first | omega | (simp; done) | (simp; omega)) _ | with_reducible refine Below.grown ?_ (by assumption) (by first | omega | (simp; done) | (simp; omega)) (by intro k hk; cases hk; omega) | with_reducible refine Below.trans ?_ (Below.mono (by assumption) (by first | omega | (simp; done) | (simp; omega)))))⟩
end Go.Proofs.Ytimfabpigpcjhaa
