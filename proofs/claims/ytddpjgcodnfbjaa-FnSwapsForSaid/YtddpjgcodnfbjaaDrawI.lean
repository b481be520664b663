/- What the arguments' generators of spec draw: lists of ints; no statement is proved here. -/
import Derived.Test.YtddpjgcodnfbjaaGenI
namespace Go.Proofs.Ytddpjgcodnfbjaa
open Go.ChangeShapes Go.WideShapes Go.ChangeAt Go.RowKit
set_option linter.unusedVariables false
set_option linter.unusedSimpArgs false

/-- a list of at most L ints is drawn -/
def DrL (L : Nat) (w : World) : Ending → World → Prop := fun e w' => ∃ h n c zs, e = .returned (.slice (some ⟨h, 0, none⟩) n c) ∧ Own w' w.heap.size 3 (.slice (some ⟨h, 0, none⟩) n c) zs ∧ n ≤ L ∧ Below w.heap.size w w'
/-- a list and an int are drawn -/
def DrLI (L : Nat) (w : World) : Ending → World → Prop := fun e w' => ∃ h n c zs x, e = .returned (.tuple #[.slice (some ⟨h, 0, none⟩) n c, (.int .i64 x)]) ∧ Own w' w.heap.size 3 (.slice (some ⟨h, 0, none⟩) n c) zs ∧ n ≤ L ∧ Below w.heap.size w w'
theorem Own.sm {w : World} {B h n c : Nat} {E : TypeId} {zs : List Int} (ho : Own w B E (.slice (some ⟨h, 0, none⟩) n c) zs) (hn : n ≤ 1048576) : Sl w h 0 n c zs := ho.sl (by rw [← (Own.at ho).1]; exact hn) ho.capm
set_option maxHeartbeats 1000000 in
theorem DrawValidHarp_c {w : World} {v : Value} (hv : BSl w v) : Calls Try.prog 20 #[v] w (DrL 50 w) := by
  obtain ⟨B, hB0, hv⟩ : ∃ B, B ≤ w.heap.size ∧ BSlB w B v := ⟨w.heap.size, Nat.le_refl _, hv⟩
  have hv' := hv
  obtain ⟨p, n, cap, rfl, _⟩ := hv'
  go_enter Try.func20, Try.ntmps20
  go_wp2_with fail
  go_at_call 56
  refine (newReader_c _ _ B (hv.below (by (repeat' (first | exact Below.refl _ _ | refine Below.alloc ?_ ?_ _ | refine Below.setCell ?_ ?_ _ | refine Below.drew ?_ | refine below_drewN ?_ _ | refine Below.trans ?_ (Below.mono (by assumption) ?_))) <;> (try first | omega | (simp; done) | (simp at *; omega))) hB0) (by first | omega | (simp; omega))).mono ?_
  rintro e w1 ⟨g, rfl, hr1, hL, hb1⟩
  have hH := hr1.lt
  have hB := hr1.ge
  obtain ⟨hc1, hf1, -, hz1⟩ := bcell hb1
  (try simp at hz1)
  (try simp at hL)
  have y1 : w.heap.size ≤ w1.heap.size := by omega
  (try (have z1_0 : w.heap.size < w1.heap.size := by omega))
  (try (have z1_1 : w.heap.size + 1 < w1.heap.size := by omega))
  go_wp2_with fail
  go_at_call 57
  refine (anyHarp_c (show Rdr _ B g _ by repeat' (first | with_reducible exact hr1 | with_reducible apply Rdr.alloc | with_reducible apply Rdr.drew1 | with_reducible apply Rdr.drew | (apply Rdr.setO (ha := by first | omega | (simp; omega)) (hB := by first | omega | (simp; omega))))) (by omega)).mono ?_
  rintro e w2 ⟨h, k, c, zs, rfl, ho, hk, hr2, hg2⟩
  obtain ⟨hc2, hf2, hz2⟩ := gcell hg2 hH
  (try simp at hz2)
  obtain ⟨hd2, he2⟩ := gcellL hg2 hL
  (try (have ne2_0_0 : ¬ (w2.heap.size = w.heap.size) := by omega)); (try (have nf2_0_0 : ¬ (w.heap.size = w2.heap.size) := by omega))
  (try (have ne2_0_1 : ¬ (w2.heap.size = w.heap.size + 1) := by omega)); (try (have nf2_0_1 : ¬ (w.heap.size + 1 = w2.heap.size) := by omega))
  (try (have ne2_1_0 : ¬ (w2.heap.size = w1.heap.size) := by omega)); (try (have nf2_1_0 : ¬ (w1.heap.size = w2.heap.size) := by omega))
  (try (have ne2_1_1 : ¬ (w2.heap.size = w1.heap.size + 1) := by omega)); (try (have nf2_1_1 : ¬ (w1.heap.size + 1 = w2.heap.size) := by omega))
  (try (have y2 : w.heap.size ≤ w2.heap.size := by omega))
  (try (have y2_1 : w1.heap.size ≤ w2.heap.size := by omega))
  (try (have z2_0_0 : w.heap.size < w2.heap.size := by omega))
  (try (have z2_0_1 : w.heap.size + 1 < w2.heap.size := by omega))
  (try (have z2_0_2 : w.heap.size + 1 + 1 < w2.heap.size := by omega))
  (try (have z2_1_0 : w1.heap.size < w2.heap.size := by omega))
  (try (have z2_1_1 : w1.heap.size + 1 < w2.heap.size := by omega))
  go_wp2_with fail
  go_ret
  exact ⟨h, k, c, zs, rfl, ho.le (by omega), hk, (by repeat' (first | with_reducible exact Below.refl _ _ | with_reducible refine Below.alloc ?_ (by first | omega | (simp; done) | (simp; omega)) _ | with_reducible refine Below.drew ?_ | with_reducible refine below_drewN ?_ _ | with_reducible refine Below.setCell ?_ (by first | omega | (simp; done) | (simp; omega)) _ | with_reducible refine Below.grown ?_ (by assumption) (by first | omega | (simp; done) | (simp; omega)) (by intro k hk; cases hk; omega) | with_reducible refine Below.trans ?_ (Below.mono (by assumption) (by first | omega | (simp; done) | (simp; omega)))))⟩
set_option maxHeartbeats 1000000 in
theorem DrawStoreIn_c {w : World} {v : Value} (hv : BSl w v) : Calls Try.prog 14 #[v] w (DrLI 50 w) := by
  obtain ⟨B, hB0, hv⟩ : ∃ B, B ≤ w.heap.size ∧ BSlB w B v := ⟨w.heap.size, Nat.le_refl _, hv⟩
  have hv' := hv
  obtain ⟨p, n, cap, rfl, _⟩ := hv'
  go_enter Try.func14, Try.ntmps14
  go_wp2_with fail
  go_at_call 56
  refine (newReader_c _ _ B (hv.below (by (repeat' (first | exact Below.refl _ _ | refine Below.alloc ?_ ?_ _ | refine Below.setCell ?_ ?_ _ | refine Below.drew ?_ | refine below_drewN ?_ _ | refine Below.trans ?_ (Below.mono (by assumption) ?_))) <;> (try first | omega | (simp; done) | (simp at *; omega))) hB0) (by first | omega | (simp; omega))).mono ?_
  rintro e w1 ⟨g, rfl, hr1, hL, hb1⟩
  have hH := hr1.lt
  have hB := hr1.ge
  obtain ⟨hc1, hf1, -, hz1⟩ := bcell hb1
  (try simp at hz1)
  (try simp at hL)
  have y1 : w.heap.size ≤ w1.heap.size := by omega
  (try (have z1_0 : w.heap.size < w1.heap.size := by omega))
  (try (have z1_1 : w.heap.size + 1 < w1.heap.size := by omega))
  go_wp2_with fail
  go_at_call 57
  refine (anyHarp_c (show Rdr _ B g _ by repeat' (first | with_reducible exact hr1 | with_reducible apply Rdr.alloc | with_reducible apply Rdr.drew1 | with_reducible apply Rdr.drew | (apply Rdr.setO (ha := by first | omega | (simp; omega)) (hB := by first | omega | (simp; omega))))) (by omega)).mono ?_
  rintro e w2 ⟨h, k, c, zs, rfl, ho, hk, hr2, hg2⟩
  obtain ⟨hc2, hf2, hz2⟩ := gcell hg2 hH
  (try simp at hz2)
  obtain ⟨hd2, he2⟩ := gcellL hg2 hL
  (try (have ne2_0_0 : ¬ (w2.heap.size = w.heap.size) := by omega)); (try (have nf2_0_0 : ¬ (w.heap.size = w2.heap.size) := by omega))
  (try (have ne2_0_1 : ¬ (w2.heap.size = w.heap.size + 1) := by omega)); (try (have nf2_0_1 : ¬ (w.heap.size + 1 = w2.heap.size) := by omega))
  (try (have ne2_1_0 : ¬ (w2.heap.size = w1.heap.size) := by omega)); (try (have nf2_1_0 : ¬ (w1.heap.size = w2.heap.size) := by omega))
  (try (have ne2_1_1 : ¬ (w2.heap.size = w1.heap.size + 1) := by omega)); (try (have nf2_1_1 : ¬ (w1.heap.size + 1 = w2.heap.size) := by omega))
  (try (have y2 : w.heap.size ≤ w2.heap.size := by omega))
  (try (have y2_1 : w1.heap.size ≤ w2.heap.size := by omega))
  (try (have z2_0_0 : w.heap.size < w2.heap.size := by omega))
  (try (have z2_0_1 : w.heap.size + 1 < w2.heap.size := by omega))
  (try (have z2_0_2 : w.heap.size + 1 + 1 < w2.heap.size := by omega))
  (try (have z2_1_0 : w1.heap.size < w2.heap.size := by omega))
  (try (have z2_1_1 : w1.heap.size + 1 < w2.heap.size := by omega))
  go_wp2_with fail
  go_at_call 58
  refine (one_any (show Rdr _ B g _ by repeat' (first | with_reducible exact hr2 | with_reducible apply Rdr.alloc | with_reducible apply Rdr.drew1 | with_reducible apply Rdr.drew | (apply Rdr.setO (ha := by first | omega | (simp; omega)) (hB := by first | omega | (simp; omega))))) (by omega) (by exact lit_any _ _ _ _ (by first | rfl | simp) rfl (by simp)) (by omega) (by first | omega | (simp; omega))).mono ?_
  rintro e w3 ⟨x3, rfl, p3, hr3, hg3⟩
  clear p3
  obtain ⟨hc3, hf3, hz3⟩ := gcell hg3 hH
  (try simp at hz3)
  obtain ⟨hd3, he3⟩ := gcellL hg3 hL
  (try (have ne3_0_0 : ¬ (w3.heap.size = w.heap.size) := by omega)); (try (have nf3_0_0 : ¬ (w.heap.size = w3.heap.size) := by omega))
  (try (have ne3_0_1 : ¬ (w3.heap.size = w.heap.size + 1) := by omega)); (try (have nf3_0_1 : ¬ (w.heap.size + 1 = w3.heap.size) := by omega))
  (try (have ne3_1_0 : ¬ (w3.heap.size = w1.heap.size) := by omega)); (try (have nf3_1_0 : ¬ (w1.heap.size = w3.heap.size) := by omega))
  (try (have ne3_1_1 : ¬ (w3.heap.size = w1.heap.size + 1) := by omega)); (try (have nf3_1_1 : ¬ (w1.heap.size + 1 = w3.heap.size) := by omega))
  (try (have ne3_2_0 : ¬ (w3.heap.size = w2.heap.size) := by omega)); (try (have nf3_2_0 : ¬ (w2.heap.size = w3.heap.size) := by omega))
  (try (have ne3_2_1 : ¬ (w3.heap.size = w2.heap.size + 1) := by omega)); (try (have nf3_2_1 : ¬ (w2.heap.size + 1 = w3.heap.size) := by omega))
  (try (have y3 : w.heap.size ≤ w3.heap.size := by omega))
  (try (have y3_1 : w1.heap.size ≤ w3.heap.size := by omega))
  (try (have y3_2 : w2.heap.size ≤ w3.heap.size := by omega))
  (try (have z3_0_0 : w.heap.size < w3.heap.size := by omega))
  (try (have z3_0_1 : w.heap.size + 1 < w3.heap.size := by omega))
  (try (have z3_0_2 : w.heap.size + 1 + 1 < w3.heap.size := by omega))
  (try (have z3_1_0 : w1.heap.size < w3.heap.size := by omega))
  (try (have z3_1_1 : w1.heap.size + 1 < w3.heap.size := by omega))
  (try (have z3_2_0 : w2.heap.size < w3.heap.size := by omega))
  (try (have z3_2_1 : w2.heap.size + 1 < w3.heap.size := by omega))
  have hh := (Own.at ho).2.1
  have ho3 := ((ho.below ((Below.refl _ _).alloc (Nat.le_refl _) _)).other hg3 (by omega)).le (B' := w.heap.size) (by omega)
  clear hc2 hf2 hc3 hf3
  go_wp2_with fail
  refine bodyPost_ret (v := .tuple #[.slice (some ⟨h, 0, none⟩) k c, (.int .i64 x3)]) (by simp [results, Try.results14, go_sem]) rfl ⟨h, k, c, zs, x3, rfl, ho3, hk, (by repeat' (first | with_reducible exact Below.refl _ _ | with_reducible refine Below.alloc ?_ (by first | omega | (simp; done) | (simp; omega)) _ | with_reducible refine Below.drew ?_ | with_reducible refine below_drewN ?_ _ | with_reducible refine Below.setCell ?_ (by first | omega | (simp; done) | (simp; omega)) _ | with_reducible refine Below.grown ?_ (by assumption) (by first | omega | (simp; done) | (simp; omega)) (by intro k hk; cases hk; omega) | with_reducible refine Below.trans ?_ (Below.mono (by assumption) (by first | omega | (simp; done) | (simp; omega)))))⟩
set_option maxHeartbeats 1000000 in
theorem DrawSumsOf_c {w : World} {v : Value} (hv : BSl w v) : Calls Try.prog 36 #[v] w (DrLI 50 w) := by
  obtain ⟨B, hB0, hv⟩ : ∃ B, B ≤ w.heap.size ∧ BSlB w B v := ⟨w.heap.size, Nat.le_refl _, hv⟩
  have hv' := hv
  obtain ⟨p, n, cap, rfl, _⟩ := hv'
  go_enter Try.func36, Try.ntmps36
  go_wp2_with fail
  go_at_call 56
  refine (newReader_c _ _ B (hv.below (by (repeat' (first | exact Below.refl _ _ | refine Below.alloc ?_ ?_ _ | refine Below.setCell ?_ ?_ _ | refine Below.drew ?_ | refine below_drewN ?_ _ | refine Below.trans ?_ (Below.mono (by assumption) ?_))) <;> (try first | omega | (simp; done) | (simp at *; omega))) hB0) (by first | omega | (simp; omega))).mono ?_
  rintro e w1 ⟨g, rfl, hr1, hL, hb1⟩
  have hH := hr1.lt
  have hB := hr1.ge
  obtain ⟨hc1, hf1, -, hz1⟩ := bcell hb1
  (try simp at hz1)
  (try simp at hL)
  have y1 : w.heap.size ≤ w1.heap.size := by omega
  (try (have z1_0 : w.heap.size < w1.heap.size := by omega))
  (try (have z1_1 : w.heap.size + 1 < w1.heap.size := by omega))
  go_wp2_with fail
  go_at_call 73
  refine (someLengths_c (show Rdr _ B g _ by repeat' (first | with_reducible exact hr1 | with_reducible apply Rdr.alloc | with_reducible apply Rdr.drew1 | with_reducible apply Rdr.drew | (apply Rdr.setO (ha := by first | omega | (simp; omega)) (hB := by first | omega | (simp; omega))))) (by omega)).mono ?_
  rintro e w2 ⟨h, k, c, zs, rfl, ho, hk, hr2, hg2⟩
  obtain ⟨hc2, hf2, hz2⟩ := gcell hg2 hH
  (try simp at hz2)
  obtain ⟨hd2, he2⟩ := gcellL hg2 hL
  (try (have ne2_0_0 : ¬ (w2.heap.size = w.heap.size) := by omega)); (try (have nf2_0_0 : ¬ (w.heap.size = w2.heap.size) := by omega))
  (try (have ne2_0_1 : ¬ (w2.heap.size = w.heap.size + 1) := by omega)); (try (have nf2_0_1 : ¬ (w.heap.size + 1 = w2.heap.size) := by omega))
  (try (have ne2_1_0 : ¬ (w2.heap.size = w1.heap.size) := by omega)); (try (have nf2_1_0 : ¬ (w1.heap.size = w2.heap.size) := by omega))
  (try (have ne2_1_1 : ¬ (w2.heap.size = w1.heap.size + 1) := by omega)); (try (have nf2_1_1 : ¬ (w1.heap.size + 1 = w2.heap.size) := by omega))
  (try (have y2 : w.heap.size ≤ w2.heap.size := by omega))
  (try (have y2_1 : w1.heap.size ≤ w2.heap.size := by omega))
  (try (have z2_0_0 : w.heap.size < w2.heap.size := by omega))
  (try (have z2_0_1 : w.heap.size + 1 < w2.heap.size := by omega))
  (try (have z2_0_2 : w.heap.size + 1 + 1 < w2.heap.size := by omega))
  (try (have z2_1_0 : w1.heap.size < w2.heap.size := by omega))
  (try (have z2_1_1 : w1.heap.size + 1 < w2.heap.size := by omega))
  go_wp2_with fail
  go_at_call 58
  refine (one_any (show Rdr _ B g _ by repeat' (first | with_reducible exact hr2 | with_reducible apply Rdr.alloc | with_reducible apply Rdr.drew1 | with_reducible apply Rdr.drew | (apply Rdr.setO (ha := by first | omega | (simp; omega)) (hB := by first | omega | (simp; omega))))) (by omega) (by exact lit_any _ _ _ _ (by first | rfl | simp) rfl (by simp)) (by omega) (by first | omega | (simp; omega))).mono ?_
  rintro e w3 ⟨x3, rfl, p3, hr3, hg3⟩
  clear p3
  obtain ⟨hc3, hf3, hz3⟩ := gcell hg3 hH
  (try simp at hz3)
  obtain ⟨hd3, he3⟩ := gcellL hg3 hL
  (try (have ne3_0_0 : ¬ (w3.heap.size = w.heap.size) := by omega)); (try (have nf3_0_0 : ¬ (w.heap.size = w3.heap.size) := by omega))
  (try (have ne3_0_1 : ¬ (w3.heap.size = w.heap.size + 1) := by omega)); (try (have nf3_0_1 : ¬ (w.heap.size + 1 = w3.heap.size) := by omega))
  (try (have ne3_1_0 : ¬ (w3.heap.size = w1.heap.size) := by omega)); (try (have nf3_1_0 : ¬ (w1.heap.size = w3.heap.size) := by omega))
  (try (have ne3_1_1 : ¬ (w3.heap.size = w1.heap.size + 1) := by omega)); (try (have nf3_1_1 : ¬ (w1.heap.size + 1 = w3.heap.size) := by omega))
  (try (have ne3_2_0 : ¬ (w3.heap.size = w2.heap.size) := by omega)); (try (have nf3_2_0 : ¬ (w2.heap.size = w3.heap.size) := by omega))
  (try (have ne3_2_1 : ¬ (w3.heap.size = w2.heap.size + 1) := by omega)); (try (have nf3_2_1 : ¬ (w2.heap.size + 1 = w3.heap.size) := by omega))
  (try (have y3 : w.heap.size ≤ w3.heap.size := by omega))
  (try (have y3_1 : w1.heap.size ≤ w3.heap.size := by omega))
  (try (have y3_2 : w2.heap.size ≤ w3.heap.size := by omega))
  (try (have z3_0_0 : w.heap.size < w3.heap.size := by omega))
  (try (have z3_0_1 : w.heap.size + 1 < w3.heap.size := by omega))
  (try (have z3_0_2 : w.heap.size + 1 + 1 < w3.heap.size := by omega))
  (try (have z3_1_0 : w1.heap.size < w3.heap.size := by omega))
  (try (have z3_1_1 : w1.heap.size + 1 < w3.heap.size := by omega))
  (try (have z3_2_0 : w2.heap.size < w3.heap.size := by omega))
  (try (have z3_2_1 : w2.heap.size + 1 < w3.heap.size := by omega))
  have hh := (Own.at ho).2.1
  have ho3 := ((ho.below ((Below.refl _ _).alloc (Nat.le_refl _) _)).other hg3 (by omega)).le (B' := w.heap.size) (by omega)
  clear hc2 hf2 hc3 hf3
  go_wp2_with fail
  refine bodyPost_ret (v := .tuple #[.slice (some ⟨h, 0, none⟩) k c, (.int .i64 x3)]) (by simp [results, Try.results36, go_sem]) rfl ⟨h, k, c, zs, x3, rfl, ho3, by omega, (by repeat' (first | with_reducible exact Below.refl _ _ | with_reducible refine Below.alloc ?_ (by first | omega | (simp; done) | (simp; omega)) _ | with_reducible refine Below.drew ?_ | with_reducible refine below_drewN ?_ _ | with_reducible refine Below.setCell ?_ (by first | omega | (simp; done) | (simp; omega)) _ | with_reducible refine Below.grown ?_ (by assumption) (by first | omega | (simp; done) | (simp; omega)) (by intro k hk; cases hk; omega) | with_reducible refine Below.trans ?_ (Below.mono (by assumption) (by first | omega | (simp; done) | (simp; omega)))))⟩
theorem DrawLowerTo_c {w : World} {v : Value} (hv : BSl w v) : Calls Try.prog 32 #[v] w (DrLI 50 w) := by
  go_enter Try.func32, Try.ntmps32
  go_wp2_with fail
  go_at_call 36
  refine (DrawSumsOf_c hv).mono ?_
  rintro e w1 ⟨h, k, c, zs, x, rfl, ho, hk, hb⟩
  go_wp2_with fail
  refine bodyPost_ret (v := .tuple #[.slice (some ⟨h, 0, none⟩) k c, (.int .i64 x)]) (by simp [results, Try.results32, go_sem]) rfl ⟨h, k, c, zs, x, rfl, ho, hk, hb⟩
set_option maxHeartbeats 1000000 in
theorem DrawFetchFrom_c {w : World} {v : Value} (hv : BSl w v) : Calls Try.prog 54 #[v] w (DrLI 50 w) := by
  obtain ⟨B, hB0, hv⟩ : ∃ B, B ≤ w.heap.size ∧ BSlB w B v := ⟨w.heap.size, Nat.le_refl _, hv⟩
  have hv' := hv
  obtain ⟨p, n, cap, rfl, _⟩ := hv'
  go_enter Try.func54, Try.ntmps54
  go_wp2_with fail
  go_at_call 56
  refine (newReader_c _ _ B (hv.below (by (repeat' (first | exact Below.refl _ _ | refine Below.alloc ?_ ?_ _ | refine Below.setCell ?_ ?_ _ | refine Below.drew ?_ | refine below_drewN ?_ _ | refine Below.trans ?_ (Below.mono (by assumption) ?_))) <;> (try first | omega | (simp; done) | (simp at *; omega))) hB0) (by first | omega | (simp; omega))).mono ?_
  rintro e w1 ⟨g, rfl, hr1, hL, hb1⟩
  have hH := hr1.lt
  have hB := hr1.ge
  obtain ⟨hc1, hf1, -, hz1⟩ := bcell hb1
  (try simp at hz1)
  (try simp at hL)
  have y1 : w.heap.size ≤ w1.heap.size := by omega
  (try (have z1_0 : w.heap.size < w1.heap.size := by omega))
  (try (have z1_1 : w.heap.size + 1 < w1.heap.size := by omega))
  go_wp2_with fail
  go_at_call 57
  refine (anyHarp_c (show Rdr _ B g _ by repeat' (first | with_reducible exact hr1 | with_reducible apply Rdr.alloc | with_reducible apply Rdr.drew1 | with_reducible apply Rdr.drew | (apply Rdr.setO (ha := by first | omega | (simp; omega)) (hB := by first | omega | (simp; omega))))) (by omega)).mono ?_
  rintro e w2 ⟨h, k, c, zs, rfl, ho, hk, hr2, hg2⟩
  obtain ⟨hc2, hf2, hz2⟩ := gcell hg2 hH
  (try simp at hz2)
  obtain ⟨hd2, he2⟩ := gcellL hg2 hL
  (try (have ne2_0_0 : ¬ (w2.heap.size = w.heap.size) := by omega)); (try (have nf2_0_0 : ¬ (w.heap.size = w2.heap.size) := by omega))
  (try (have ne2_0_1 : ¬ (w2.heap.size = w.heap.size + 1) := by omega)); (try (have nf2_0_1 : ¬ (w.heap.size + 1 = w2.heap.size) := by omega))
  (try (have ne2_1_0 : ¬ (w2.heap.size = w1.heap.size) := by omega)); (try (have nf2_1_0 : ¬ (w1.heap.size = w2.heap.size) := by omega))
  (try (have ne2_1_1 : ¬ (w2.heap.size = w1.heap.size + 1) := by omega)); (try (have nf2_1_1 : ¬ (w1.heap.size + 1 = w2.heap.size) := by omega))
  (try (have y2 : w.heap.size ≤ w2.heap.size := by omega))
  (try (have y2_1 : w1.heap.size ≤ w2.heap.size := by omega))
  (try (have z2_0_0 : w.heap.size < w2.heap.size := by omega))
  (try (have z2_0_1 : w.heap.size + 1 < w2.heap.size := by omega))
  (try (have z2_0_2 : w.heap.size + 1 + 1 < w2.heap.size := by omega))
  (try (have z2_1_0 : w1.heap.size < w2.heap.size := by omega))
  (try (have z2_1_1 : w1.heap.size + 1 < w2.heap.size := by omega))
  go_wp2_with fail
  go_at_call 58
  refine (one_any (show Rdr _ B g _ by repeat' (first | with_reducible exact hr2 | with_reducible apply Rdr.alloc | with_reducible apply Rdr.drew1 | with_reducible apply Rdr.drew | (apply Rdr.setO (ha := by first | omega | (simp; omega)) (hB := by first | omega | (simp; omega))))) (by omega) (by exact lit_any _ _ _ _ (by first | rfl | simp) rfl (by simp)) (by omega) (by first | omega | (simp; omega))).mono ?_
  rintro e w3 ⟨x3, rfl, p3, hr3, hg3⟩
  clear p3
  obtain ⟨hc3, hf3, hz3⟩ := gcell hg3 hH
  (try simp at hz3)
  obtain ⟨hd3, he3⟩ := gcellL hg3 hL
  (try (have ne3_0_0 : ¬ (w3.heap.size = w.heap.size) := by omega)); (try (have nf3_0_0 : ¬ (w.heap.size = w3.heap.size) := by omega))
  (try (have ne3_0_1 : ¬ (w3.heap.size = w.heap.size + 1) := by omega)); (try (have nf3_0_1 : ¬ (w.heap.size + 1 = w3.heap.size) := by omega))
  (try (have ne3_1_0 : ¬ (w3.heap.size = w1.heap.size) := by omega)); (try (have nf3_1_0 : ¬ (w1.heap.size = w3.heap.size) := by omega))
  (try (have ne3_1_1 : ¬ (w3.heap.size = w1.heap.size + 1) := by omega)); (try (have nf3_1_1 : ¬ (w1.heap.size + 1 = w3.heap.size) := by omega))
  (try (have ne3_2_0 : ¬ (w3.heap.size = w2.heap.size) := by omega)); (try (have nf3_2_0 : ¬ (w2.heap.size = w3.heap.size) := by omega))
  (try (have ne3_2_1 : ¬ (w3.heap.size = w2.heap.size + 1) := by omega)); (try (have nf3_2_1 : ¬ (w2.heap.size + 1 = w3.heap.size) := by omega))
  (try (have y3 : w.heap.size ≤ w3.heap.size := by omega))
  (try (have y3_1 : w1.heap.size ≤ w3.heap.size := by omega))
  (try (have y3_2 : w2.heap.size ≤ w3.heap.size := by omega))
  (try (have z3_0_0 : w.heap.size < w3.heap.size := by omega))
  (try (have z3_0_1 : w.heap.size + 1 < w3.heap.size := by omega))
  (try (have z3_0_2 : w.heap.size + 1 + 1 < w3.heap.size := by omega))
  (try (have z3_1_0 : w1.heap.size < w3.heap.size := by omega))
  (try (have z3_1_1 : w1.heap.size + 1 < w3.heap.size := by omega))
  (try (have z3_2_0 : w2.heap.size < w3.heap.size := by omega))
  (try (have z3_2_1 : w2.heap.size + 1 < w3.heap.size := by omega))
  have hh := (Own.at ho).2.1
  have ho3 := ((ho.below ((Below.refl _ _).alloc (Nat.le_refl _) _)).other hg3 (by omega)).le (B' := w.heap.size) (by omega)
  clear hc2 hf2 hc3 hf3
  by_cases hn : 0 < k
  · have i1 : (0 : Int) < (k : Int) := by omega
    go_wp2_with fail
    go_at_call 87
    refine (pick_c (show Rdr _ B g _ by repeat' (first | with_reducible exact hr3 | with_reducible apply Rdr.alloc | with_reducible apply Rdr.drew1 | with_reducible apply Rdr.drew | (apply Rdr.setO (ha := by first | omega | (simp; omega)) (hB := by first | omega | (simp; omega))))) (by omega) _).mono ?_
    rintro e w4 ⟨x4, rfl, ⟨p4, q4⟩, hr4, hg4⟩
    replace q4 := q4 (by omega)
    obtain ⟨hc4, hf4, hz4⟩ := gcell hg4 hH
    (try simp at hz4)
    obtain ⟨hd4, he4⟩ := gcellL hg4 hL
    (try (have ne4_0_0 : ¬ (w4.heap.size = w.heap.size) := by omega)); (try (have nf4_0_0 : ¬ (w.heap.size = w4.heap.size) := by omega))
    (try (have ne4_0_1 : ¬ (w4.heap.size = w.heap.size + 1) := by omega)); (try (have nf4_0_1 : ¬ (w.heap.size + 1 = w4.heap.size) := by omega))
    (try (have ne4_1_0 : ¬ (w4.heap.size = w1.heap.size) := by omega)); (try (have nf4_1_0 : ¬ (w1.heap.size = w4.heap.size) := by omega))
    (try (have ne4_1_1 : ¬ (w4.heap.size = w1.heap.size + 1) := by omega)); (try (have nf4_1_1 : ¬ (w1.heap.size + 1 = w4.heap.size) := by omega))
    (try (have ne4_2_0 : ¬ (w4.heap.size = w2.heap.size) := by omega)); (try (have nf4_2_0 : ¬ (w2.heap.size = w4.heap.size) := by omega))
    (try (have ne4_2_1 : ¬ (w4.heap.size = w2.heap.size + 1) := by omega)); (try (have nf4_2_1 : ¬ (w2.heap.size + 1 = w4.heap.size) := by omega))
    (try (have ne4_3_0 : ¬ (w4.heap.size = w3.heap.size) := by omega)); (try (have nf4_3_0 : ¬ (w3.heap.size = w4.heap.size) := by omega))
    (try (have ne4_3_1 : ¬ (w4.heap.size = w3.heap.size + 1) := by omega)); (try (have nf4_3_1 : ¬ (w3.heap.size + 1 = w4.heap.size) := by omega))
    (try (have y4 : w.heap.size ≤ w4.heap.size := by omega))
    (try (have y4_1 : w1.heap.size ≤ w4.heap.size := by omega))
    (try (have y4_2 : w2.heap.size ≤ w4.heap.size := by omega))
    (try (have y4_3 : w3.heap.size ≤ w4.heap.size := by omega))
    (try (have z4_0_0 : w.heap.size < w4.heap.size := by omega))
    (try (have z4_0_1 : w.heap.size + 1 < w4.heap.size := by omega))
    (try (have z4_0_2 : w.heap.size + 1 + 1 < w4.heap.size := by omega))
    (try (have z4_1_0 : w1.heap.size < w4.heap.size := by omega))
    (try (have z4_1_1 : w1.heap.size + 1 < w4.heap.size := by omega))
    (try (have z4_2_0 : w2.heap.size < w4.heap.size := by omega))
    (try (have z4_2_1 : w2.heap.size + 1 < w4.heap.size := by omega))
    (try (have z4_3_0 : w3.heap.size < w4.heap.size := by omega))
    (try (have z4_3_1 : w3.heap.size + 1 < w4.heap.size := by omega))
    have ho4 := ho3.other hg4 (by omega)
    clear hc4 hf4
    by_cases t0 : 0 < x4
    · have d0 : decide (0 < x4) = true := decide_eq_true t0
      go_wp2_with fail
      go_at_call 87
      refine (pick_c (show Rdr _ B g _ by repeat' (first | with_reducible exact hr4 | with_reducible apply Rdr.alloc | with_reducible apply Rdr.drew1 | with_reducible apply Rdr.drew | (apply Rdr.setO (ha := by first | omega | (simp; omega)) (hB := by first | omega | (simp; omega))))) (by omega) _).mono ?_
      rintro e w5 ⟨x5, rfl, ⟨p5, q5⟩, hr5, hg5⟩
      replace q5 := q5 (by omega)
      obtain ⟨hc5, hf5, hz5⟩ := gcell hg5 hH
      (try simp at hz5)
      obtain ⟨hd5, he5⟩ := gcellL hg5 hL
      (try (have ne5_0_0 : ¬ (w5.heap.size = w.heap.size) := by omega)); (try (have nf5_0_0 : ¬ (w.heap.size = w5.heap.size) := by omega))
      (try (have ne5_0_1 : ¬ (w5.heap.size = w.heap.size + 1) := by omega)); (try (have nf5_0_1 : ¬ (w.heap.size + 1 = w5.heap.size) := by omega))
      (try (have ne5_1_0 : ¬ (w5.heap.size = w1.heap.size) := by omega)); (try (have nf5_1_0 : ¬ (w1.heap.size = w5.heap.size) := by omega))
      (try (have ne5_1_1 : ¬ (w5.heap.size = w1.heap.size + 1) := by omega)); (try (have nf5_1_1 : ¬ (w1.heap.size + 1 = w5.heap.size) := by omega))
      (try (have ne5_2_0 : ¬ (w5.heap.size = w2.heap.size) := by omega)); (try (have nf5_2_0 : ¬ (w2.heap.size = w5.heap.size) := by omega))
      (try (have ne5_2_1 : ¬ (w5.heap.size = w2.heap.size + 1) := by omega)); (try (have nf5_2_1 : ¬ (w2.heap.size + 1 = w5.heap.size) := by omega))
      (try (have ne5_3_0 : ¬ (w5.heap.size = w3.heap.size) := by omega)); (try (have nf5_3_0 : ¬ (w3.heap.size = w5.heap.size) := by omega))
      (try (have ne5_3_1 : ¬ (w5.heap.size = w3.heap.size + 1) := by omega)); (try (have nf5_3_1 : ¬ (w3.heap.size + 1 = w5.heap.size) := by omega))
      (try (have ne5_4_0 : ¬ (w5.heap.size = w4.heap.size) := by omega)); (try (have nf5_4_0 : ¬ (w4.heap.size = w5.heap.size) := by omega))
      (try (have ne5_4_1 : ¬ (w5.heap.size = w4.heap.size + 1) := by omega)); (try (have nf5_4_1 : ¬ (w4.heap.size + 1 = w5.heap.size) := by omega))
      (try (have y5 : w.heap.size ≤ w5.heap.size := by omega))
      (try (have y5_1 : w1.heap.size ≤ w5.heap.size := by omega))
      (try (have y5_2 : w2.heap.size ≤ w5.heap.size := by omega))
      (try (have y5_3 : w3.heap.size ≤ w5.heap.size := by omega))
      (try (have y5_4 : w4.heap.size ≤ w5.heap.size := by omega))
      (try (have z5_0_0 : w.heap.size < w5.heap.size := by omega))
      (try (have z5_0_1 : w.heap.size + 1 < w5.heap.size := by omega))
      (try (have z5_0_2 : w.heap.size + 1 + 1 < w5.heap.size := by omega))
      (try (have z5_1_0 : w1.heap.size < w5.heap.size := by omega))
      (try (have z5_1_1 : w1.heap.size + 1 < w5.heap.size := by omega))
      (try (have z5_2_0 : w2.heap.size < w5.heap.size := by omega))
      (try (have z5_2_1 : w2.heap.size + 1 < w5.heap.size := by omega))
      (try (have z5_3_0 : w3.heap.size < w5.heap.size := by omega))
      (try (have z5_3_1 : w3.heap.size + 1 < w5.heap.size := by omega))
      (try (have z5_4_0 : w4.heap.size < w5.heap.size := by omega))
      (try (have z5_4_1 : w4.heap.size + 1 < w5.heap.size := by omega))
      have ho5 := ho4.other hg5 (by omega)
      clear hc5 hf5
      obtain ⟨q, rfl⟩ : ∃ q : Nat, x5 = q := ⟨x5.toNat, by omega⟩
      have f1 := (own_facts ho5 q).1 (by omega)
      go_wp2_with fail
      refine bodyPost_ret (v := .tuple #[.slice (some ⟨h, 0, none⟩) k c, (.int .i64 (el zs q))]) (by simp [results, Try.results54, go_sem]) rfl ⟨h, k, c, zs, _, rfl, ho5, hk, (by repeat' (first | with_reducible exact Below.refl _ _ | with_reducible refine Below.alloc ?_ (by first | omega | (simp; done) | (simp; omega)) _ | with_reducible refine Below.drew ?_ | with_reducible refine below_drewN ?_ _ | with_reducible refine Below.setCell ?_ (by first | omega | (simp; done) | (simp; omega)) _ | with_reducible refine Below.grown ?_ (by assumption) (by first | omega | (simp; done) | (simp; omega)) (by intro k hk; cases hk; omega) | with_reducible refine Below.trans ?_ (Below.mono (by assumption) (by first | omega | (simp; done) | (simp; omega)))))⟩
    · have d0 : decide (0 < x4) = false := decide_eq_false t0
      go_wp2_with fail
      refine bodyPost_ret (v := .tuple #[.slice (some ⟨h, 0, none⟩) k c, (.int .i64 x3)]) (by simp [results, Try.results54, go_sem]) rfl ⟨h, k, c, zs, x3, rfl, ho4, hk, (by repeat' (first | with_reducible exact Below.refl _ _ | with_reducible refine Below.alloc ?_ (by first | omega | (simp; done) | (simp; omega)) _ | with_reducible refine Below.drew ?_ | with_reducible refine below_drewN ?_ _ | with_reducible refine Below.setCell ?_ (by first | omega | (simp; done) | (simp; omega)) _ | with_reducible refine Below.grown ?_ (by assumption) (by first | omega | (simp; done) | (simp; omega)) (by intro k hk; cases hk; omega) | with_reducible refine Below.trans ?_ (Below.mono (by assumption) (by first | omega | (simp; done) | (simp; omega)))))⟩
  · have i1 : decide ((0 : Int) < (k : Int)) = false := decide_eq_false (by omega)
    obtain rfl : k = 0 := by omega
    go_wp2_with fail
    refine bodyPost_ret (v := .tuple #[.slice (some ⟨h, 0, none⟩) 0 c, (.int .i64 x3)]) (by simp [results, Try.results54, go_sem]) rfl ⟨h, 0, c, zs, x3, rfl, ho3, hk, (by repeat' (first | with_reducible exact Below.refl _ _ | with_reducible refine Below.alloc ?_ (by first | omega | (simp; done) | (simp; omega)) _ | with_reducible refine Below.drew ?_ | with_reducible refine below_drewN ?_ _ | with_reducible refine Below.setCell ?_ (by first | omega | (simp; done) | (simp; omega)) _ | with_reducible refine Below.grown ?_ (by assumption) (by first | omega | (simp; done) | (simp; omega)) (by intro k hk; cases hk; omega) | with_reducible refine Below.trans ?_ (Below.mono (by assumption) (by first | omega | (simp; done) | (simp; omega)))))⟩
end Go.Proofs.Ytddpjgcodnfbjaa
