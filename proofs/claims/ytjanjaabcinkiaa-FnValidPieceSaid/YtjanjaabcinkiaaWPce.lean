/- ClearAt; the walk of the law FnValidPiece; no statement is proved here. -/
import Derived.Test.YtjanjaabcinkiaaFlw3
import Derived.Test.YtjanjaabcinkiaaPlRm
import Derived.Deep.RegionHeldLaw
namespace Go.Proofs.Ytjanjaabcinkiaa
open Go.ChangeShapes Go.WideShapes Go.ChangeAt Go.RowKit Go.Deep
set_option linter.unusedVariables false
set_option linter.unusedSimpArgs false

theorem OFl.of {w : World} {B g n c : Nat} {bs : List Fl} (h : OF w B g n c bs) : OFl w B (.slice (some ⟨g, 0, none⟩) n c) bs := by
  have e := h.len
  subst e
  exact .inr ⟨g, c, rfl, h⟩
theorem vP_rm {l x y : Int} {bs : List Fl} {k : Nat} (hk : k < bs.length) (h : vP l x y bs = true) : vP l x y (rm bs k) = true := by
  obtain ⟨h1, h2, h3⟩ := vP_iff.1 h
  have e : ∀ j, fl (rm bs k) j = fl bs (sk k j) := fun j => rm_getD hk j _
  refine vP_iff.2 ⟨h1, by rw [rm_len hk]; omega, fun j hj => ?_⟩
  rw [rm_len hk] at hj
  have := h3 (sk k j) (sk_lt hj)
  unfold flS f0 f1 f2 f3 at this ⊢
  rw [e]; exact this
set_option maxHeartbeats 1600000 in
theorem impl_ClearAt_c {w : World} {B : Nat} {v : Value} {bs : List Fl} {l x y : Int} (h : OFl w B v bs) (hl : bs.length ≤ 1000) (hv : vP l x y bs = true) : Calls Try.prog 50 #[(.agg #[.int .i64 l, .int .i64 x, .int .i64 y, v]), (.agg #[.int .i64 0, .int .i64 0, .int .i64 x, .int .i64 y])] w (Rt (.bool (!decide (0 < bs.length))) w) := by
  obtain ⟨h1, h2, h3⟩ := vP_iff.1 hv
  have hs : vBox 0 0 x y = true := by rw [vBox_sides]; exact decide_eq_true ⟨h1.2.1.1, h1.2.1.2, h1.2.2⟩
  have hi : insB 0 0 x y 0 0 x y = true := by
    unfold insB inside; rw [hs]; simp
  have CV := fun W (hb : Below w.heap.size w W) => impl_ValidPiece_f l x y (h.below hb) hl
  rw [hv] at CV
  have CM := fun W (hb : Below w.heap.size w W) => impl_meetsFlaw_c (h.below hb) hl hs h3
  have CI := fun W => impl_InsideOf_c 0 0 x y 0 0 x y W
  rw [hi] at CI
  obtain ⟨p, c, hf⟩ := h.form
  obtain ⟨n, hn⟩ : ∃ n, n = bs.length := ⟨_, rfl⟩
  obtain ⟨D, hD⟩ : ∃ D, D = decide (0 < n) := ⟨_, rfl⟩
  rw [← hn] at CM hf ⊢
  rw [← hD] at CM ⊢
  subst hf
  clear hs hi hv h1 h2 h3 h hn hl hD
  go_enter Try.func50, Try.ntmps50
  go_wp2_with fail
  obtain ⟨wq, hwq⟩ : ∃ wq : World, wq = (w.alloc (.cells #[(.int .i64 l), (.int .i64 x), (.int .i64 y), .slice p n c] 65)).alloc (.cells #[(.int .i64 0), (.int .i64 0), (.int .i64 x), (.int .i64 y)] 78) := ⟨_, rfl⟩
  have k0 : wq.cell? ⟨w.heap.size, 0, none⟩ = some (.int .i64 l) := by rw [hwq]; go_simp
  have k1 : wq.cell? ⟨w.heap.size, 1, none⟩ = some (.int .i64 x) := by rw [hwq]; go_simp
  have k2 : wq.cell? ⟨w.heap.size, 2, none⟩ = some (.int .i64 y) := by rw [hwq]; go_simp
  have k3 : wq.cell? ⟨w.heap.size, 3, none⟩ = some (.slice p n c) := by rw [hwq]; go_simp
  have u0 : wq.cell? ⟨w.heap.size + 1, 0, none⟩ = some (.int .i64 0) := by rw [hwq]; go_simp
  have u1 : wq.cell? ⟨w.heap.size + 1, 1, none⟩ = some (.int .i64 0) := by rw [hwq]; go_simp
  have u2 : wq.cell? ⟨w.heap.size + 1, 2, none⟩ = some (.int .i64 x) := by rw [hwq]; go_simp
  have u3 : wq.cell? ⟨w.heap.size + 1, 3, none⟩ = some (.int .i64 y) := by rw [hwq]; go_simp
  have hB : Below w.heap.size w wq := by rw [hwq]; exact (by repeat' (first | with_reducible exact Below.refl _ _ | with_reducible refine Below.alloc ?_ (by first | omega | (simp; done) | (simp; omega)) _ | with_reducible refine Below.drew ?_ | with_reducible refine below_drewN ?_ _ | with_reducible refine Below.setCell ?_ (by first | omega | (simp; done) | (simp; omega)) _ | with_reducible refine Below.grown ?_ (by assumption) (by first | omega | (simp; done) | (simp; omega)) (by intro k hk; cases hk; omega) | with_reducible refine Below.trans ?_ (Below.mono (by assumption) (by first | omega | (simp; done) | (simp; omega)))))
  rw [← hwq]
  clear hwq
  have F0 := fun z : Bw wq => z.cell k0
  have F1 := fun z : Bw wq => z.cell k1
  have F2 := fun z : Bw wq => z.cell k2
  have F3 := fun z : Bw wq => z.cell k3
  have G0 := fun z : Bw wq => z.cell u0
  have G1 := fun z : Bw wq => z.cell u1
  have G2 := fun z : Bw wq => z.cell u2
  have G3 := fun z : Bw wq => z.cell u3
  have E1 := fun z : Bw wq => CV z.w (hB.trans (z.h.mono hB.size))
  have E2 := fun z : Bw wq => CM z.w (hB.trans (z.h.mono hB.size))
  clear CV CM
  refine region_bw (W := wq) (by kernel_rfl) (by kernel_rfl) (Below.refl _ _) ?_
  repeat (go_big_quiet_step ((first | (go_at_call 43; exact calls_bw (E1 _)) | (go_at_call 77; exact calls_bw (impl_pieceBox_c _ _ _ _ _)) | (go_at_call 78; exact calls_bw (CI _)) | (go_at_call 83; exact calls_bw (E2 _)))))
  refine wpQuiet_nil ?_
  rintro _ ⟨⟨wz, hbwz⟩, rfl⟩
  (try dsimp only)
  go_wp2
  go_ret
  exact ⟨rfl, hB.trans (hbwz.mono hB.size)⟩
theorem p4_drew {W : World} {P : Nat} {v0 v1 v2 v3 : Value} (h : W.cell? ⟨P, 0, none⟩ = some v0 ∧ W.cell? ⟨P, 1, none⟩ = some v1 ∧ W.cell? ⟨P, 2, none⟩ = some v2 ∧ W.cell? ⟨P, 3, none⟩ = some v3 ∧ P < W.heap.size) : W.drew.cell? ⟨P, 0, none⟩ = some v0 ∧ W.drew.cell? ⟨P, 1, none⟩ = some v1 ∧ W.drew.cell? ⟨P, 2, none⟩ = some v2 ∧ W.drew.cell? ⟨P, 3, none⟩ = some v3 ∧ P < W.drew.heap.size := h
theorem p4_alloc {W : World} (o : Obj) {P : Nat} {v0 v1 v2 v3 : Value} (h : W.cell? ⟨P, 0, none⟩ = some v0 ∧ W.cell? ⟨P, 1, none⟩ = some v1 ∧ W.cell? ⟨P, 2, none⟩ = some v2 ∧ W.cell? ⟨P, 3, none⟩ = some v3 ∧ P < W.heap.size) : (W.alloc o).cell? ⟨P, 0, none⟩ = some v0 ∧ (W.alloc o).cell? ⟨P, 1, none⟩ = some v1 ∧ (W.alloc o).cell? ⟨P, 2, none⟩ = some v2 ∧ (W.alloc o).cell? ⟨P, 3, none⟩ = some v3 ∧ P < (W.alloc o).heap.size := by
  obtain ⟨h0, h1, h2, h3, z⟩ := h
  exact ⟨(World.cell?_alloc_past _ _ _ z).trans h0, (World.cell?_alloc_past _ _ _ z).trans h1, (World.cell?_alloc_past _ _ _ z).trans h2, (World.cell?_alloc_past _ _ _ z).trans h3, by simp; omega⟩
theorem p4_bel {W w1 : World} {P : Nat} {v0 v1 v2 v3 : Value} (hb : Below W.heap.size W w1) (h : W.cell? ⟨P, 0, none⟩ = some v0 ∧ W.cell? ⟨P, 1, none⟩ = some v1 ∧ W.cell? ⟨P, 2, none⟩ = some v2 ∧ W.cell? ⟨P, 3, none⟩ = some v3 ∧ P < W.heap.size) : w1.cell? ⟨P, 0, none⟩ = some v0 ∧ w1.cell? ⟨P, 1, none⟩ = some v1 ∧ w1.cell? ⟨P, 2, none⟩ = some v2 ∧ w1.cell? ⟨P, 3, none⟩ = some v3 ∧ P < w1.heap.size := by
  obtain ⟨h0, h1, h2, h3, z⟩ := h
  exact ⟨(hb.cell (p := ⟨P, 0, none⟩) z).trans h0, (hb.cell (p := ⟨P, 1, none⟩) z).trans h1, (hb.cell (p := ⟨P, 2, none⟩) z).trans h2, (hb.cell (p := ⟨P, 3, none⟩) z).trans h3, Nat.lt_of_lt_of_le z hb.size⟩
set_option maxRecDepth 20000 in
set_option maxHeartbeats 4000000 in
theorem FnValidPiece_walk (v : Value) (w : World) (hv : BSl w v) : Calls Try.prog 12 #[v] w (Rt (.bool true) w) := by
  have hv' := hv
  obtain ⟨p, nn, cap, rfl, _⟩ := hv'
  by_cases hn : 1048576 < nn
  · have d1 : decide (1048576 < (nn : Int)) = true := decide_eq_true (by omega)
    go_enter Try.func12, Try.ntmps12
    go_wp2
    go_ret
    exact ⟨rfl, Below.refl _ _⟩
  · have d1 : decide (1048576 < (nn : Int)) = false := decide_eq_false (by omega)
    obtain ⟨i0, hi, iz0, iz1, iz2⟩ := info_parts infoBox
    go_enter Try.func12, Try.ntmps12
    go_wp2_with fail
    go_at_call 49
    refine (DrawValidPiece_c hv).mono ?_
    rintro e w1 ⟨l, x, y, u, bs, rfl, ho, hk, ⟨q1, q2, q3, q4⟩, hb1⟩
    obtain ⟨hc1, hf1, -, hz1⟩ := bcell hb1
    (try simp at hz1)
    (try (have y1 : w.heap.size ≤ w1.heap.size := by omega))
    (try (have z1_0_0 : w.heap.size < w1.heap.size := by omega))
    (try (have z1_0_1 : w.heap.size + 1 < w1.heap.size := by omega))
    (try (have z1_0_2 : w.heap.size + 1 + 1 < w1.heap.size := by omega))
    (try (have z1_0_3 : w.heap.size + 1 + 1 + 1 < w1.heap.size := by omega))
    have hB1 : Below w.heap.size w w1 := (by repeat' (first | with_reducible exact Below.refl _ _ | with_reducible refine Below.alloc ?_ (by first | omega | (simp; done) | (simp; omega)) _ | with_reducible refine Below.drew ?_ | with_reducible refine below_drewN ?_ _ | with_reducible refine Below.setCell ?_ (by first | omega | (simp; done) | (simp; omega)) _ | with_reducible refine Below.grown ?_ (by assumption) (by first | omega | (simp; done) | (simp; omega)) (by intro k hk; cases hk; omega) | with_reducible refine Below.trans ?_ (Below.mono (by assumption) (by first | omega | (simp; done) | (simp; omega)))))
    clear hc1 hf1
    have C1 := fun W (hb : Below w1.heap.size w1 W) => impl_ValidPiece_f l x y (ho.below hb) (by omega)
    have C2 := fun W (hb : Below w1.heap.size w1 W) => spec_ValidPiece_f (l := l) (x := x) (y := y) (ho.below hb) (by omega) (by omega) (by omega)
    obtain ⟨pv, cv, hu⟩ := ho.form
    obtain ⟨n, hnb⟩ : ∃ n, n = bs.length := ⟨_, rfl⟩
    rw [← hnb] at hu
    subst hu
    have HO := mkhid ho
    have HN := mkhid hnb
    rw [← hnb] at hk
    clear ho hnb
    cases hval : vP l x y bs
    · rw [hval] at C1 C2
      clear hval
      go_wp2_with fail
      go_at_call 43
      refine (C1 _ (by repeat' (first | with_reducible exact Below.refl _ _ | with_reducible refine Below.alloc ?_ (by first | omega | (simp; done) | (simp; omega)) _ | with_reducible refine Below.drew ?_ | with_reducible refine below_drewN ?_ _ | with_reducible refine Below.setCell ?_ (by first | omega | (simp; done) | (simp; omega)) _ | with_reducible refine Below.grown ?_ (by assumption) (by first | omega | (simp; done) | (simp; omega)) (by intro k hk; cases hk; omega) | with_reducible refine Below.trans ?_ (Below.mono (by assumption) (by first | omega | (simp; done) | (simp; omega)))))).mono ?_
      rintro e w2 ⟨rfl, hb2⟩
      obtain ⟨hc2, hf2, -, hz2⟩ := bcell hb2
      (try simp at hz2)
      (try (have y2 : w.heap.size ≤ w2.heap.size := by omega))
      (try (have z2_0_0 : w.heap.size < w2.heap.size := by omega))
      (try (have z2_0_1 : w.heap.size + 1 < w2.heap.size := by omega))
      (try (have z2_0_2 : w.heap.size + 1 + 1 < w2.heap.size := by omega))
      (try (have z2_0_3 : w.heap.size + 1 + 1 + 1 < w2.heap.size := by omega))
      (try (have z2_1_0 : w1.heap.size < w2.heap.size := by omega))
      (try (have z2_1_1 : w1.heap.size + 1 < w2.heap.size := by omega))
      go_wp2_with fail
      go_at_call 41
      refine (C2 _ (by repeat' (first | with_reducible exact Below.refl _ _ | with_reducible refine Below.alloc ?_ (by first | omega | (simp; done) | (simp; omega)) _ | with_reducible refine Below.drew ?_ | with_reducible refine below_drewN ?_ _ | with_reducible refine Below.setCell ?_ (by first | omega | (simp; done) | (simp; omega)) _ | with_reducible refine Below.grown ?_ (by assumption) (by first | omega | (simp; done) | (simp; omega)) (by intro k hk; cases hk; omega) | with_reducible refine Below.trans ?_ (Below.mono (by assumption) (by first | omega | (simp; done) | (simp; omega)))))).mono ?_
      rintro e w3 ⟨rfl, hb3⟩
      obtain ⟨hc3, hf3, -, hz3⟩ := bcell hb3
      (try simp at hz3)
      (try (have y3 : w.heap.size ≤ w3.heap.size := by omega))
      (try (have z3_0_0 : w.heap.size < w3.heap.size := by omega))
      (try (have z3_0_1 : w.heap.size + 1 < w3.heap.size := by omega))
      (try (have z3_0_2 : w.heap.size + 1 + 1 < w3.heap.size := by omega))
      (try (have z3_0_3 : w.heap.size + 1 + 1 + 1 < w3.heap.size := by omega))
      (try (have z3_1_0 : w1.heap.size < w3.heap.size := by omega))
      (try (have z3_1_1 : w1.heap.size + 1 < w3.heap.size := by omega))
      (try (have z3_2_0 : w2.heap.size < w3.heap.size := by omega))
      (try (have z3_2_1 : w2.heap.size + 1 < w3.heap.size := by omega))
      go_wp2_with fail
      go_at_call 41
      refine (C2 _ (by repeat' (first | with_reducible exact Below.refl _ _ | with_reducible refine Below.alloc ?_ (by first | omega | (simp; done) | (simp; omega)) _ | with_reducible refine Below.drew ?_ | with_reducible refine below_drewN ?_ _ | with_reducible refine Below.setCell ?_ (by first | omega | (simp; done) | (simp; omega)) _ | with_reducible refine Below.grown ?_ (by assumption) (by first | omega | (simp; done) | (simp; omega)) (by intro k hk; cases hk; omega) | with_reducible refine Below.trans ?_ (Below.mono (by assumption) (by first | omega | (simp; done) | (simp; omega)))))).mono ?_
      rintro e w4 ⟨rfl, hb4⟩
      obtain ⟨hc4, hf4, -, hz4⟩ := bcell hb4
      (try simp at hz4)
      (try (have y4 : w.heap.size ≤ w4.heap.size := by omega))
      (try (have z4_0_0 : w.heap.size < w4.heap.size := by omega))
      (try (have z4_0_1 : w.heap.size + 1 < w4.heap.size := by omega))
      (try (have z4_0_2 : w.heap.size + 1 + 1 < w4.heap.size := by omega))
      (try (have z4_0_3 : w.heap.size + 1 + 1 + 1 < w4.heap.size := by omega))
      (try (have z4_1_0 : w1.heap.size < w4.heap.size := by omega))
      (try (have z4_1_1 : w1.heap.size + 1 < w4.heap.size := by omega))
      (try (have z4_2_0 : w2.heap.size < w4.heap.size := by omega))
      (try (have z4_2_1 : w2.heap.size + 1 < w4.heap.size := by omega))
      (try (have z4_3_0 : w3.heap.size < w4.heap.size := by omega))
      (try (have z4_3_1 : w3.heap.size + 1 < w4.heap.size := by omega))
      go_wp2_with fail
      go_ret
      exact ⟨rfl, (by repeat' (first | with_reducible exact Below.refl _ _ | with_reducible refine Below.alloc ?_ (by first | omega | (simp; done) | (simp; omega)) _ | with_reducible refine Below.drew ?_ | with_reducible refine below_drewN ?_ _ | with_reducible refine Below.setCell ?_ (by first | omega | (simp; done) | (simp; omega)) _ | with_reducible refine Below.grown ?_ (by assumption) (by first | omega | (simp; done) | (simp; omega)) (by intro k hk; cases hk; omega) | with_reducible refine Below.trans ?_ (Below.mono (by assumption) (by first | omega | (simp; done) | (simp; omega)))))⟩
    · rw [hval] at C1 C2
      have HV := mkhid hval
      clear hval
      go_wp2_with fail
      go_at_call 43
      refine (C1 _ (by repeat' (first | with_reducible exact Below.refl _ _ | with_reducible refine Below.alloc ?_ (by first | omega | (simp; done) | (simp; omega)) _ | with_reducible refine Below.drew ?_ | with_reducible refine below_drewN ?_ _ | with_reducible refine Below.setCell ?_ (by first | omega | (simp; done) | (simp; omega)) _ | with_reducible refine Below.grown ?_ (by assumption) (by first | omega | (simp; done) | (simp; omega)) (by intro k hk; cases hk; omega) | with_reducible refine Below.trans ?_ (Below.mono (by assumption) (by first | omega | (simp; done) | (simp; omega)))))).mono ?_
      rintro e w2 ⟨rfl, hb2⟩
      obtain ⟨hc2, hf2, -, hz2⟩ := bcell hb2
      (try simp at hz2)
      (try (have y2 : w.heap.size ≤ w2.heap.size := by omega))
      (try (have z2_0_0 : w.heap.size < w2.heap.size := by omega))
      (try (have z2_0_1 : w.heap.size + 1 < w2.heap.size := by omega))
      (try (have z2_0_2 : w.heap.size + 1 + 1 < w2.heap.size := by omega))
      (try (have z2_0_3 : w.heap.size + 1 + 1 + 1 < w2.heap.size := by omega))
      (try (have z2_1_0 : w1.heap.size < w2.heap.size := by omega))
      (try (have z2_1_1 : w1.heap.size + 1 < w2.heap.size := by omega))
      go_wp2_with fail
      go_at_call 41
      refine (C2 _ (by repeat' (first | with_reducible exact Below.refl _ _ | with_reducible refine Below.alloc ?_ (by first | omega | (simp; done) | (simp; omega)) _ | with_reducible refine Below.drew ?_ | with_reducible refine below_drewN ?_ _ | with_reducible refine Below.setCell ?_ (by first | omega | (simp; done) | (simp; omega)) _ | with_reducible refine Below.grown ?_ (by assumption) (by first | omega | (simp; done) | (simp; omega)) (by intro k hk; cases hk; omega) | with_reducible refine Below.trans ?_ (Below.mono (by assumption) (by first | omega | (simp; done) | (simp; omega)))))).mono ?_
      rintro e w3 ⟨rfl, hb3⟩
      obtain ⟨hc3, hf3, -, hz3⟩ := bcell hb3
      (try simp at hz3)
      (try (have y3 : w.heap.size ≤ w3.heap.size := by omega))
      (try (have z3_0_0 : w.heap.size < w3.heap.size := by omega))
      (try (have z3_0_1 : w.heap.size + 1 < w3.heap.size := by omega))
      (try (have z3_0_2 : w.heap.size + 1 + 1 < w3.heap.size := by omega))
      (try (have z3_0_3 : w.heap.size + 1 + 1 + 1 < w3.heap.size := by omega))
      (try (have z3_1_0 : w1.heap.size < w3.heap.size := by omega))
      (try (have z3_1_1 : w1.heap.size + 1 < w3.heap.size := by omega))
      (try (have z3_2_0 : w2.heap.size < w3.heap.size := by omega))
      (try (have z3_2_1 : w2.heap.size + 1 < w3.heap.size := by omega))
      go_wp2_with fail
      have hB3 : Below w1.heap.size w1 w3 := (by repeat' (first | with_reducible exact Below.refl _ _ | with_reducible refine Below.alloc ?_ (by first | omega | (simp; done) | (simp; omega)) _ | with_reducible refine Below.drew ?_ | with_reducible refine below_drewN ?_ _ | with_reducible refine Below.setCell ?_ (by first | omega | (simp; done) | (simp; omega)) _ | with_reducible refine Below.grown ?_ (by assumption) (by first | omega | (simp; done) | (simp; omega)) (by intro k hk; cases hk; omega) | with_reducible refine Below.trans ?_ (Below.mono (by assumption) (by first | omega | (simp; done) | (simp; omega)))))
      have p0 : w3.cell? ⟨w1.heap.size, 0, none⟩ = some (.int .i64 l) := by go_simp
      have p1 : w3.cell? ⟨w1.heap.size, 1, none⟩ = some (.int .i64 x) := by go_simp
      have p2 : w3.cell? ⟨w1.heap.size, 2, none⟩ = some (.int .i64 y) := by go_simp
      have p3 : w3.cell? ⟨w1.heap.size, 3, none⟩ = some (.slice pv n cv) := by go_simp
      have pl : w1.heap.size < w3.heap.size := by omega
      clear C1 C2 hc2 hc3 hf2 hf3 hb1 hb2 hb3 hz1 hz2 hz3
      go_loopw [5] (fun i wr => ∃ k : Nat, k ≤ n ∧ i = .int .i64 k ∧ Below w3.heap.size w3 wr) (fun i _ => n - (intOf i).toNat)
      case atStart => exact ⟨0, Nat.zero_le _, rfl, Below.refl _ _⟩
      case round =>
        obtain ⟨k, hk', rfl, hbr⟩ := hrel
        obtain ⟨s0, s1, s2, s3, sl⟩ := p4_bel hbr ⟨p0, p1, p2, p3, pl⟩
        have hb1r := hB3.trans (hbr.mono hB3.size)
        have hzr := hbr.size
        clear p0 p1 p2 p3
        by_cases hlt : k < n
        · have i1 : (0 : Int) ≤ (k : Int) := by omega
          have i2 : (k : Int) < (n : Int) := by omega
          have i3 : (k : Int) ≤ (n : Int) := by omega
          have hlen := HN.out
          rcases HO.out with ⟨_, e0⟩ | ⟨g, c, e0, ho⟩
          · rw [e0] at hlen; simp at hlen; omega
          rw [← hlen] at e0 ho
          simp only [Value.slice.injEq, true_and] at e0
          obtain ⟨rfl, rfl⟩ := e0
          clear hlen
          have hor := ho.below hb1r
          have hcap := hor.cap
          obtain ⟨hcap1, hcap2⟩ := hcap
          have hcm := hcap2
          unfold maxLen at hcm
          have i4 : (k : Int) ≤ (cv : Int) := by omega
          have i5 : (k : Int) + 1 ≤ (n : Int) := by omega
          have i6 : (n : Int) ≤ (cv : Int) := by omega
          have i7 : (k : Int) + 1 ≤ (cv : Int) := by omega
          have hnl := hor.lt
          obtain ⟨f1, f2⟩ := hor.news (k := k) (by omega)
          obtain ⟨r1, r2⟩ := hor.rest (k := k + 1) (by omega)
          have hl5 := hor.len
          have F1 := fun W (hb : Below wr.heap.size wr W) j u (hu : (flatG flK (bs.take k))[j]? = some u) => (hb.cell (p := Addr.add ⟨g, 0, none⟩ j) (by rw [Go.WideShapes.add_plain]; exact hnl)).trans (f2 j u hu)
          have F2 := fun W (hb : Below wr.heap.size wr W) j u (hu : (flatG flK (bs.drop (k + 1)))[j]? = some u) => (hb.cell (p := Addr.add ⟨g, (k + 1) * 4, none⟩ j) (by rw [Go.WideShapes.add_plain]; exact hnl)).trans (r2 j u hu)
          have C3 := fun W b q cc (h : OF W b q (k + (n - (k + 1))) cc (rm bs k)) => impl_ValidPiece_f l x y (OFl.of h) (by rw [rm_len (by omega)]; omega)
          rw [vP_rm (by omega) HV.out] at C3
          have G1 := mkhid F1
          have G2 := mkhid F2
          clear f2 r2 F1 F2
          have i9 : (0 : Int) ≤ (k : Int) + 1 := by omega
          have i10 : ((k : Int) + 1).toNat = k + 1 := by omega
          have i11 : IntKind.i64.wrap ((k : Int) + 1) = (k : Int) + 1 := IntWalk.i64_in _ (by omega)
          have i12 : (k : Int) ≤ (k : Int) + 1 := by omega
          by_cases hca : k + 1 = cv
          · have hdr : bs.drop (k + 1) = [] := List.drop_eq_nil_of_le (by omega)
            have hrm : rm bs k = bs.take k ++ [] := by unfold rm; rw [hdr]
            have hl0 : n - (k + 1) = 0 := by omega
            rw [hrm, hl0] at C3
            go_wp2_with fail
            go_region_held_law (fun w' => w'.cell? ⟨w1.heap.size, 0, none⟩ = some (.int .i64 l) ∧ w'.cell? ⟨w1.heap.size, 1, none⟩ = some (.int .i64 x) ∧ w'.cell? ⟨w1.heap.size, 2, none⟩ = some (.int .i64 y) ∧ w'.cell? ⟨w1.heap.size, 3, none⟩ = some (.slice (some ⟨g, 0, none⟩) n cv) ∧ w1.heap.size < w'.heap.size) (first | with_reducible exact p4_drew ⟨s0, s1, s2, s3, sl⟩ | with_reducible exact p4_alloc _ (by assumption) | with_reducible exact p4_drew (p4_alloc _ ⟨s0, s1, s2, s3, sl⟩) | with_reducible exact p4_bel hb6 (p4_bel hb5 ⟨s0, s1, s2, s3, sl⟩) | with_reducible exact p4_bel hb5 ⟨s0, s1, s2, s3, sl⟩ | with_reducible exact p4_bel hb4 ⟨s0, s1, s2, s3, sl⟩) (first
              | (refine step_append_own rfl (.tmp 38) (.tmp 42) 55 rfl wr.heap.size 78 i0 (.agg #[.int .i64 0, .int .i64 0, .int .i64 0, .int .i64 0]) 4 32 Try.underlying55 hi iz0 iz1 iz2 rfl (by decide) _ 0 [] rfl (OG.empty (b := wr.heap.size) flK_len (by omega) (by first | rfl | simp) (by first | rfl | simp)).row ⟨g, 0, none⟩ k _ (flatG flK (bs.take k)) rfl f1 (G1.out _ (by repeat' (first | with_reducible exact Below.refl _ _ | with_reducible refine Below.alloc ?_ (by first | omega | (simp; done) | (simp; omega)) _ | with_reducible refine Below.drew ?_ | with_reducible refine below_drewN ?_ _ | with_reducible refine Below.setCell ?_ (by first | omega | (simp; done) | (simp; omega)) _ | with_reducible refine Below.grown ?_ (by assumption) (by first | omega | (simp; done) | (simp; omega)) (by intro k hk; cases hk; omega) | with_reducible refine Below.trans ?_ (Below.mono (by assumption) (by first | omega | (simp; done) | (simp; omega)))))) (flatG_one' flK_one _) (by unfold maxLen; omega) (by omega) (by first | omega | (simp; done) | (simp; omega)) ?_; intro v4 w4 hown4 hgrow4 hnil4; obtain ⟨g4, c4, rfl, ho4⟩ := OG.app (OG.empty (w := wr) (B := wr.heap.size) (b := wr.heap.size) flK_len (by omega) (Nat.le_refl _) rfl) (ys := bs.take k) (q := k) (by rw [List.length_take]; omega) rfl hown4 hnil4; rw [List.nil_append, Nat.zero_add] at ho4; have hgr4 : World.grownBy _ w4 (some wr.heap.size) := hgrow4; have hb4 : Below wr.heap.size wr w4 := Below.grown (by repeat' (first | with_reducible exact Below.refl _ _ | with_reducible refine Below.alloc ?_ (by first | omega | (simp; done) | (simp; omega)) _ | with_reducible refine Below.drew ?_ | with_reducible refine below_drewN ?_ _ | with_reducible refine Below.setCell ?_ (by first | omega | (simp; done) | (simp; omega)) _ | with_reducible refine Below.grown ?_ (by assumption) (by first | omega | (simp; done) | (simp; omega)) (by intro k hk; cases hk; omega) | with_reducible refine Below.trans ?_ (Below.mono (by assumption) (by first | omega | (simp; done) | (simp; omega))))) hgr4 (by first | omega | (simp; done) | (simp; omega)) (fun q hq => by cases hq; omega); have hz4 := hb4.size; clear hown4 hgrow4 hnil4 hgr4; simp only [Nat.zero_add])
              | (refine step_append_own rfl (.tmp 43) (.tmp 48) 55 rfl wr.heap.size 78 i0 (.agg #[.int .i64 0, .int .i64 0, .int .i64 0, .int .i64 0]) 4 32 Try.underlying55 hi iz0 iz1 iz2 rfl (by decide) _ k _ rfl ho4.row ⟨g, 0, none⟩ 0 _ [] rfl rfl (by intro j u hu; simp at hu) (by intro u hu; simp at hu) (by unfold maxLen; omega) (by omega) (by first | omega | (simp; done) | (simp; omega)) ?_; intro v5 w5 hown5 hgrow5 hnil5; obtain ⟨g5, c5, rfl, ho5⟩ := OG.app ho4 (ys := []) (q := 0) rfl rfl hown5 hnil5; have hgr5 : World.grownBy w4 w5 (some g4) := hgrow5; have hge4 := ho4.ge; have hb5 : Below wr.heap.size wr w5 := Below.grown hb4 hgr5 (by omega) (fun q hq => by cases hq; omega); have hz5 := hb5.size; clear hown5 hgrow5 hnil5 hgr5)
              | (go_simp; go_at_call 43; refine (C3 _ _ _ _ ho5).mono ?_; rintro e w6 ⟨rfl, hb6⟩; try dsimp only))
            go_wp2_with fail
            go_roundw
            case rel => exact ⟨k + 1, by omega, by go_num, (hbr.trans (hb5.mono hbr.size)).trans (hb6.mono (by omega))⟩
            case measure => first | (simp [intOf]; done) | (simp [intOf]; omega)
          · have hca' : ¬ (cv = k + 1) := fun e => hca e.symm
            go_wp2_with fail
            go_region_held_law (fun w' => w'.cell? ⟨w1.heap.size, 0, none⟩ = some (.int .i64 l) ∧ w'.cell? ⟨w1.heap.size, 1, none⟩ = some (.int .i64 x) ∧ w'.cell? ⟨w1.heap.size, 2, none⟩ = some (.int .i64 y) ∧ w'.cell? ⟨w1.heap.size, 3, none⟩ = some (.slice (some ⟨g, 0, none⟩) n cv) ∧ w1.heap.size < w'.heap.size) (first | with_reducible exact p4_drew ⟨s0, s1, s2, s3, sl⟩ | with_reducible exact p4_alloc _ (by assumption) | with_reducible exact p4_drew (p4_alloc _ ⟨s0, s1, s2, s3, sl⟩) | with_reducible exact p4_bel hb6 (p4_bel hb5 ⟨s0, s1, s2, s3, sl⟩) | with_reducible exact p4_bel hb5 ⟨s0, s1, s2, s3, sl⟩ | with_reducible exact p4_bel hb4 ⟨s0, s1, s2, s3, sl⟩) (first
              | (refine step_append_own rfl (.tmp 38) (.tmp 42) 55 rfl wr.heap.size 78 i0 (.agg #[.int .i64 0, .int .i64 0, .int .i64 0, .int .i64 0]) 4 32 Try.underlying55 hi iz0 iz1 iz2 rfl (by decide) _ 0 [] rfl (OG.empty (b := wr.heap.size) flK_len (by omega) (by first | rfl | simp) (by first | rfl | simp)).row ⟨g, 0, none⟩ k _ (flatG flK (bs.take k)) rfl f1 (G1.out _ (by repeat' (first | with_reducible exact Below.refl _ _ | with_reducible refine Below.alloc ?_ (by first | omega | (simp; done) | (simp; omega)) _ | with_reducible refine Below.drew ?_ | with_reducible refine below_drewN ?_ _ | with_reducible refine Below.setCell ?_ (by first | omega | (simp; done) | (simp; omega)) _ | with_reducible refine Below.grown ?_ (by assumption) (by first | omega | (simp; done) | (simp; omega)) (by intro k hk; cases hk; omega) | with_reducible refine Below.trans ?_ (Below.mono (by assumption) (by first | omega | (simp; done) | (simp; omega)))))) (flatG_one' flK_one _) (by unfold maxLen; omega) (by omega) (by first | omega | (simp; done) | (simp; omega)) ?_; intro v4 w4 hown4 hgrow4 hnil4; obtain ⟨g4, c4, rfl, ho4⟩ := OG.app (OG.empty (w := wr) (B := wr.heap.size) (b := wr.heap.size) flK_len (by omega) (Nat.le_refl _) rfl) (ys := bs.take k) (q := k) (by rw [List.length_take]; omega) rfl hown4 hnil4; rw [List.nil_append, Nat.zero_add] at ho4; have hgr4 : World.grownBy _ w4 (some wr.heap.size) := hgrow4; have hb4 : Below wr.heap.size wr w4 := Below.grown (by repeat' (first | with_reducible exact Below.refl _ _ | with_reducible refine Below.alloc ?_ (by first | omega | (simp; done) | (simp; omega)) _ | with_reducible refine Below.drew ?_ | with_reducible refine below_drewN ?_ _ | with_reducible refine Below.setCell ?_ (by first | omega | (simp; done) | (simp; omega)) _ | with_reducible refine Below.grown ?_ (by assumption) (by first | omega | (simp; done) | (simp; omega)) (by intro k hk; cases hk; omega) | with_reducible refine Below.trans ?_ (Below.mono (by assumption) (by first | omega | (simp; done) | (simp; omega))))) hgr4 (by first | omega | (simp; done) | (simp; omega)) (fun q hq => by cases hq; omega); have hz4 := hb4.size; clear hown4 hgrow4 hnil4 hgr4; simp only [Nat.zero_add])
              | (refine step_append_own rfl (.tmp 43) (.tmp 48) 55 rfl wr.heap.size 78 i0 (.agg #[.int .i64 0, .int .i64 0, .int .i64 0, .int .i64 0]) 4 32 Try.underlying55 hi iz0 iz1 iz2 rfl (by decide) _ k _ rfl ho4.row ⟨g, (k + 1) * 4, none⟩ (n - (k + 1)) _ (flatG flK (bs.drop (k + 1))) rfl r1 (G2.out _ hb4) (flatG_one' flK_one _) (by unfold maxLen; omega) (by omega) (by first | omega | (simp; done) | (simp; omega)) ?_; intro v5 w5 hown5 hgrow5 hnil5; obtain ⟨g5, c5, rfl, ho5⟩ := OG.app ho4 (ys := bs.drop (k + 1)) (q := n - (k + 1)) (by rw [List.length_drop]; omega) rfl hown5 hnil5; have hgr5 : World.grownBy w4 w5 (some g4) := hgrow5; have hge4 := ho4.ge; have hb5 : Below wr.heap.size wr w5 := Below.grown hb4 hgr5 (by omega) (fun q hq => by cases hq; omega); have hz5 := hb5.size; clear hown5 hgrow5 hnil5 hgr5)
              | (go_simp; go_at_call 43; refine (C3 _ _ _ _ ho5).mono ?_; rintro e w6 ⟨rfl, hb6⟩; try dsimp only))
            go_wp2_with fail
            go_roundw
            case rel => exact ⟨k + 1, by omega, by go_num, (hbr.trans (hb5.mono hbr.size)).trans (hb6.mono (by omega))⟩
            case measure => first | (simp [intOf]; done) | (simp [intOf]; omega)
        · have hk2 : k = n := by omega
          have CA := fun z : Bw wr => impl_ClearAt_c (HO.out.below (hb1r.trans (z.h.mono hb1r.size))) (by rw [← HN.out]; omega) HV.out
          rw [← HN.out] at CA
          have S0 := fun z : Bw wr => z.cell s0
          have S1 := fun z : Bw wr => z.cell s1
          have S2 := fun z : Bw wr => z.cell s2
          have S3 := fun z : Bw wr => z.cell s3
          by_cases h0 : 0 < n
          · rw [decide_eq_true h0] at CA
            have e0 : ((n : Int) == 0) = false := by simp; omega
            subst hk2
            clear hbr
            go_wp2_with fail
            refine region_bw (W := wr) (by kernel_rfl) (by kernel_rfl) (Below.refl _ _) ?_
            repeat (go_big_quiet_step ((go_at_call 50; with_reducible exact calls_bw (CA _))))
            refine wpQuiet_nil ?_
            rintro _ ⟨⟨wz, hbwz⟩, rfl⟩
            (try dsimp only)
            go_wp2
            go_ret
            exact ⟨rfl, (hB1.trans (hb1r.mono hB1.size)).trans (hbwz.mono (by omega))⟩
          · rw [decide_eq_false h0] at CA
            have e1 : ((n : Int) == 0) = true := by simp; omega
            subst hk2
            clear hbr h0
            go_wp2_with fail
            refine region_bw (W := wr) (by kernel_rfl) (by kernel_rfl) (Below.refl _ _) ?_
            repeat (go_big_quiet_step ((go_at_call 50; with_reducible exact calls_bw (CA _))))
            refine wpQuiet_nil ?_
            rintro _ ⟨⟨wz, hbwz⟩, rfl⟩
            (try dsimp only)
            go_wp2
            go_ret
            exact ⟨rfl, (hB1.trans (hb1r.mono hB1.size)).trans (hbwz.mono (by omega))⟩
end Go.Proofs.Ytjanjaabcinkiaa
