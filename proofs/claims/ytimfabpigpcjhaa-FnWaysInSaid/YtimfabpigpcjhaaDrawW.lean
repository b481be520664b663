/- DrawWaysIn of spec; no statement is proved here. -/
import Derived.Test.YtimfabpigpcjhaaDraw
import Derived.Test.YtimfabpigpcjhaaLawsB0
namespace Go.Proofs.Ytimfabpigpcjhaa
open Go.ChangeShapes Go.WideShapes Go.ChangeAt Go.RowKit
set_option linter.unusedVariables false
set_option linter.unusedSimpArgs false

theorem k4_drew {W : World} {P : Nat} {v0 v1 v2 v3 : Value} (h : W.cell? ⟨P, 0, none⟩ = some v0 ∧ W.cell? ⟨P, 1, none⟩ = some v1 ∧ W.cell? ⟨P, 2, none⟩ = some v2 ∧ W.cell? ⟨P, 3, none⟩ = some v3 ∧ P < W.heap.size) : W.drew.cell? ⟨P, 0, none⟩ = some v0 ∧ W.drew.cell? ⟨P, 1, none⟩ = some v1 ∧ W.drew.cell? ⟨P, 2, none⟩ = some v2 ∧ W.drew.cell? ⟨P, 3, none⟩ = some v3 ∧ P < W.drew.heap.size := h
theorem k4_alloc {W : World} (o : Obj) {P : Nat} {v0 v1 v2 v3 : Value} (h : W.cell? ⟨P, 0, none⟩ = some v0 ∧ W.cell? ⟨P, 1, none⟩ = some v1 ∧ W.cell? ⟨P, 2, none⟩ = some v2 ∧ W.cell? ⟨P, 3, none⟩ = some v3 ∧ P < W.heap.size) : (W.alloc o).cell? ⟨P, 0, none⟩ = some v0 ∧ (W.alloc o).cell? ⟨P, 1, none⟩ = some v1 ∧ (W.alloc o).cell? ⟨P, 2, none⟩ = some v2 ∧ (W.alloc o).cell? ⟨P, 3, none⟩ = some v3 ∧ P < (W.alloc o).heap.size := by
  obtain ⟨h0, h1, h2, h3, z⟩ := h
  exact ⟨(World.cell?_alloc_past _ _ _ z).trans h0, (World.cell?_alloc_past _ _ _ z).trans h1, (World.cell?_alloc_past _ _ _ z).trans h2, (World.cell?_alloc_past _ _ _ z).trans h3, by simp; omega⟩
theorem k4_set {W : World} {d j : Nat} {u : Value} {P : Nat} {v0 v1 v2 v3 : Value} (e : d ≠ P) (h : W.cell? ⟨P, 0, none⟩ = some v0 ∧ W.cell? ⟨P, 1, none⟩ = some v1 ∧ W.cell? ⟨P, 2, none⟩ = some v2 ∧ W.cell? ⟨P, 3, none⟩ = some v3 ∧ P < W.heap.size) : (W.setCell ⟨d, j, none⟩ u).cell? ⟨P, 0, none⟩ = some v0 ∧ (W.setCell ⟨d, j, none⟩ u).cell? ⟨P, 1, none⟩ = some v1 ∧ (W.setCell ⟨d, j, none⟩ u).cell? ⟨P, 2, none⟩ = some v2 ∧ (W.setCell ⟨d, j, none⟩ u).cell? ⟨P, 3, none⟩ = some v3 ∧ P < (W.setCell ⟨d, j, none⟩ u).heap.size := by
  obtain ⟨h0, h1, h2, h3, z⟩ := h
  exact ⟨(World.cell?_setCell_far W ⟨d, j, none⟩ ⟨_, _, none⟩ u e).trans h0, (World.cell?_setCell_far W ⟨d, j, none⟩ ⟨_, _, none⟩ u e).trans h1, (World.cell?_setCell_far W ⟨d, j, none⟩ ⟨_, _, none⟩ u e).trans h2, (World.cell?_setCell_far W ⟨d, j, none⟩ ⟨_, _, none⟩ u e).trans h3, by simpa [World.setCell] using z⟩
theorem k4_g {W w1 : World} {g : Nat} {P : Nat} {v0 v1 v2 v3 : Value} (hg : W.grownBy w1 (some g)) (e : P ≠ g) (h : W.cell? ⟨P, 0, none⟩ = some v0 ∧ W.cell? ⟨P, 1, none⟩ = some v1 ∧ W.cell? ⟨P, 2, none⟩ = some v2 ∧ W.cell? ⟨P, 3, none⟩ = some v3 ∧ P < W.heap.size) : w1.cell? ⟨P, 0, none⟩ = some v0 ∧ w1.cell? ⟨P, 1, none⟩ = some v1 ∧ w1.cell? ⟨P, 2, none⟩ = some v2 ∧ w1.cell? ⟨P, 3, none⟩ = some v3 ∧ P < w1.heap.size := by
  obtain ⟨h0, h1, h2, h3, z⟩ := h
  have hz := hg.size
  have hc := (gb_at hg z e).1
  exact ⟨(hc 0).trans h0, (hc 1).trans h1, (hc 2).trans h2, (hc 3).trans h3, by omega⟩
set_option maxHeartbeats 4000000 in
theorem DrawWaysIn_c {w : World} {v : Value} (hv : BSl w v) : Calls Try.prog 14 #[v] w (DrP2 w) := by
  obtain ⟨B, hB0, hv⟩ : ∃ B, B ≤ w.heap.size ∧ BSlB w B v := ⟨w.heap.size, Nat.le_refl _, hv⟩
  have hv' := hv
  obtain ⟨p, n, cap, rfl, _⟩ := hv'
  go_enter Try.func14, Try.ntmps14
  go_wp2_with fail
  go_at_call 42
  refine (newReader_c _ _ B (hv.below (by (repeat' (first | exact Below.refl _ _ | refine Below.alloc ?_ ?_ _ | refine Below.setCell ?_ ?_ _ | refine Below.drew ?_ | refine below_drewN ?_ _ | refine Below.trans ?_ (Below.mono (by assumption) ?_))) <;> (try first | omega | (simp; done) | (simp at *; omega))) hB0) (by first | omega | (simp; omega))).mono ?_
  rintro e w1 ⟨g, rfl, hr1, hL, hb1⟩
  have hH := hr1.lt
  have hB := hr1.ge
  obtain ⟨hc1, hf1, -, hz1⟩ := bcell hb1
  (try simp at hz1)
  (try simp at hL)
  have y1 : w.heap.size ≤ w1.heap.size := by omega
  (try (have z1_0 : w.heap.size < w1.heap.size := by omega))
  (try (have z1_1 : w.heap.size + 1 < w1.heap.size := by omega))
  go_wp2_with fail
  go_at_call 43
  refine (anyPane_c (show Rdr _ B g _ by repeat' (first | with_reducible exact hr1 | with_reducible apply Rdr.alloc | with_reducible apply Rdr.drew1 | with_reducible apply Rdr.drew | (apply Rdr.setO (ha := by first | omega | (simp; omega)) (hB := by first | omega | (simp; omega))))) (by omega)).mono ?_
  rintro e w2 ⟨b2, h2, t2, n2, rfl, q2, hr2, hg2⟩
  obtain ⟨hc2, hf2, hz2⟩ := gcell hg2 hH
  (try simp at hz2)
  obtain ⟨hd2, he2⟩ := gcellL hg2 hL
  (try (have ne2_0_0 : ¬ (w2.heap.size = w.heap.size) := by omega)); (try (have nf2_0_0 : ¬ (w.heap.size = w2.heap.size) := by omega))
  (try (have ne2_0_1 : ¬ (w2.heap.size = w.heap.size + 1) := by omega)); (try (have nf2_0_1 : ¬ (w.heap.size + 1 = w2.heap.size) := by omega))
  (try (have ne2_1_0 : ¬ (w2.heap.size = w1.heap.size) := by omega)); (try (have nf2_1_0 : ¬ (w1.heap.size = w2.heap.size) := by omega))
  (try (have ne2_1_1 : ¬ (w2.heap.size = w1.heap.size + 1) := by omega)); (try (have nf2_1_1 : ¬ (w1.heap.size + 1 = w2.heap.size) := by omega))
  (try (have y2 : w.heap.size ≤ w2.heap.size := by omega))
  (try (have y2_1 : w1.heap.size ≤ w2.heap.size := by omega))
  (try (have z2_0_0 : w.heap.size < w2.heap.size := by omega))
  (try (have z2_0_1 : w.heap.size + 1 < w2.heap.size := by omega))
  (try (have z2_0_2 : w.heap.size + 1 + 1 < w2.heap.size := by omega))
  (try (have z2_1_0 : w1.heap.size < w2.heap.size := by omega))
  (try (have z2_1_1 : w1.heap.size + 1 < w2.heap.size := by omega))
  go_wp2_with fail
  have k0 : w2.cell? ⟨w.heap.size, 0, none⟩ = some (.int .i64 0) := by go_simp
  have k1 : w2.cell? ⟨w.heap.size, 1, none⟩ = some (.int .i64 0) := by go_simp
  have k2 : w2.cell? ⟨w.heap.size, 2, none⟩ = some (.bool false) := by go_simp
  have k3 : w2.cell? ⟨w.heap.size, 3, none⟩ = some (.int .i64 0) := by go_simp
  have fk0 : w2.frozen? ⟨w.heap.size, 0, none⟩ = false := by go_simp
  have fk1 : w2.frozen? ⟨w.heap.size, 1, none⟩ = false := by go_simp
  have fk2 : w2.frozen? ⟨w.heap.size, 2, none⟩ = false := by go_simp
  have fk3 : w2.frozen? ⟨w.heap.size, 3, none⟩ = false := by go_simp
  clear hc1 hf1 hc2 hf2 hd2 he2
  obtain ⟨W3, hW3⟩ : ∃ W3 : World, W3 = w2.alloc (.cells #[(.int .i64 b2), (.int .i64 h2), .bool t2, (.int .i64 n2)] 32) := ⟨_, rfl⟩
  obtain ⟨P, hP⟩ : ∃ P, P = w2.heap.size := ⟨_, rfl⟩
  obtain ⟨R, hR⟩ : ∃ R, R = w.heap.size := ⟨_, rfl⟩
  have hlt : w.heap.size < w2.heap.size := by omega
  have p0 : W3.cell? ⟨P, 0, none⟩ = some (.int .i64 b2) := by rw [hP, hW3, World.cell?_alloc_at _ _ _ _ rfl]; rfl
  have p1 : W3.cell? ⟨P, 1, none⟩ = some (.int .i64 h2) := by rw [hP, hW3, World.cell?_alloc_at _ _ _ _ rfl]; rfl
  have p2 : W3.cell? ⟨P, 2, none⟩ = some (.bool t2) := by rw [hP, hW3, World.cell?_alloc_at _ _ _ _ rfl]; rfl
  have p3 : W3.cell? ⟨P, 3, none⟩ = some (.int .i64 n2) := by rw [hP, hW3, World.cell?_alloc_at _ _ _ _ rfl]; rfl
  have m0 : W3.cell? ⟨R, 0, none⟩ = some (.int .i64 0) := by rw [hR, hW3, World.cell?_alloc_past _ _ _ hlt]; exact k0
  have m1 : W3.cell? ⟨R, 1, none⟩ = some (.int .i64 0) := by rw [hR, hW3, World.cell?_alloc_past _ _ _ hlt]; exact k1
  have m2 : W3.cell? ⟨R, 2, none⟩ = some (.bool false) := by rw [hR, hW3, World.cell?_alloc_past _ _ _ hlt]; exact k2
  have m3 : W3.cell? ⟨R, 3, none⟩ = some (.int .i64 0) := by rw [hR, hW3, World.cell?_alloc_past _ _ _ hlt]; exact k3
  have fm0 : W3.frozen? ⟨R, 0, none⟩ = false := by rw [hR, hW3]; go_simp
  have fm1 : W3.frozen? ⟨R, 1, none⟩ = false := by rw [hR, hW3]; go_simp
  have fm2 : W3.frozen? ⟨R, 2, none⟩ = false := by rw [hR, hW3]; go_simp
  have fm3 : W3.frozen? ⟨R, 3, none⟩ = false := by rw [hR, hW3]; go_simp
  have hPl : P < W3.heap.size := by rw [hP, hW3]; simp
  have hRP : R < P := by omega
  have hRl : R < W3.heap.size := by omega
  have hPg : P ≠ g := by omega
  have hRg : R ≠ g := by omega
  have hgW : g < W3.heap.size := by omega
  have hr3 : Rdr W3 B g _ := hW3 ▸ hr2.alloc _
  have hB3 : Below w.heap.size w (w2.alloc (.cells #[(.int .i64 b2), (.int .i64 h2), .bool t2, (.int .i64 n2)] 32)) := (by repeat' (first | with_reducible exact Below.refl _ _ | with_reducible refine Below.alloc ?_ (by first | omega | (simp; done) | (simp; omega)) _ | with_reducible refine Below.drew ?_ | with_reducible refine below_drewN ?_ _ | with_reducible refine Below.setCell ?_ (by first | omega | (simp; done) | (simp; omega)) _ | with_reducible refine Below.grown ?_ (by assumption) (by first | omega | (simp; done) | (simp; omega)) (by intro k hk; cases hk; omega) | with_reducible refine Below.trans ?_ (Below.mono (by assumption) (by first | omega | (simp; done) | (simp; omega)))))
  rw [← hW3] at hB3
  rw [← hW3, ← hP, ← hR]
  have HB3 := mkhid hB3
  have HR := mkhid hR
  have HRs : R ≤ W3.heap.size := by omega
  have hRw : w.heap.size ≤ R := by omega
  have hgw : w.heap.size ≤ g := by omega
  have HRn : ¬ (R = W3.heap.size) := by omega
  clear hW3 hP hR k0 k1 k2 k3 fk0 fk1 fk2 fk3 hr1 hr2 hg2 hB3
  go_region_held3 (fun w' => w'.cell? ⟨P, 0, none⟩ = some (.int .i64 b2) ∧ w'.cell? ⟨P, 1, none⟩ = some (.int .i64 h2) ∧ w'.cell? ⟨P, 2, none⟩ = some (.bool t2) ∧ w'.cell? ⟨P, 3, none⟩ = some (.int .i64 n2) ∧ P < w'.heap.size) (first | with_reducible exact k4_drew ⟨p0, p1, p2, p3, hPl⟩ | with_reducible exact k4_alloc _ (by assumption) | with_reducible exact k4_g hg3 hPg (by assumption) | (with_reducible refine k4_set ?_ (k4_set ?_ (k4_set ?_ (k4_set ?_ (by assumption)))) <;> omega)) (first | (go_at_call 45; refine (pick_c (show Rdr _ B g _ by repeat' (first | with_reducible assumption | with_reducible apply Rdr.drew1 | with_reducible apply Rdr.drew | with_reducible apply Rdr.alloc)) (by omega) _).mono ?_; rintro e w3 ⟨x3, rfl, ⟨y3, q3⟩, hr3, hg3⟩; replace q3 := q3 (by omega); have sw := IntWalk.i64_in (1 + x3) (by omega); have hz3 := hg3.size; (try simp [drew_size, drewN_size] at hz3); obtain ⟨kb, fb⟩ := gb_at (b := R) hg3 (by first | omega | (simp [drew_size, drewN_size]; done) | (simp [drew_size, drewN_size]; omega)) (by omega); (try (have zr : R < w3.heap.size := by omega)); (try (have zn : ¬ (R = w3.heap.size) := by omega)); (try (have zn2 : ¬ (w3.heap.size = R) := by omega))) | (go_at_call 44; refine (one_any (show Rdr _ B g _ by repeat' (first | with_reducible assumption | with_reducible apply Rdr.drew1 | with_reducible apply Rdr.drew | with_reducible apply Rdr.alloc)) (by omega) (by exact lit_any _ _ _ _ (by first | rfl | simp [drew_size]) rfl (by simp)) (by omega) (by first | omega | (simp [drew_size, drewN_size]; done) | (simp [drew_size, drewN_size]; omega))).mono ?_; rintro e w3 ⟨x3, rfl, -, hr3, hg3⟩; have hz3 := hg3.size; (try simp [drew_size, drewN_size] at hz3); obtain ⟨kb, fb⟩ := gb_at (b := R) hg3 (by first | omega | (simp [drew_size, drewN_size]; done) | (simp [drew_size, drewN_size]; omega)) (by omega); (try (have zr : R < w3.heap.size := by omega)); (try (have zn : ¬ (R = w3.heap.size) := by omega)); (try (have zn2 : ¬ (w3.heap.size = R) := by omega))))
  go_wp2_with fail
  have hB3 := HB3.out
  apply bodyPost_ret
  · simp [results, Try.results14, go_sem, *]
    rfl
  · rfl
  · exact ⟨b2, h2, t2, n2, _, _, rfl, (by repeat' (first | with_reducible exact Below.refl _ _ | with_reducible refine Below.alloc ?_ (by first | omega | (simp; done) | (simp; omega)) _ | with_reducible refine Below.drew ?_ | with_reducible refine below_drewN ?_ _ | with_reducible refine Below.setCell ?_ (by first | omega | (simp; done) | (simp; omega)) _ | with_reducible refine Below.grown ?_ (by assumption) (by first | omega | (simp; done) | (simp; omega)) (by intro k hk; cases hk; omega) | with_reducible refine Below.trans ?_ (Below.mono (by assumption) (by first | omega | (simp; done) | (simp; omega)))))⟩
end Go.Proofs.Ytimfabpigpcjhaa
