/- AreaBound (spec and impl), and the walks of the exact laws on ValidWork and AreaBound; no statement is proved here. -/
import Derived.Test.YtjanjaabcinkiaaWrk
namespace Go.Proofs.Ytjanjaabcinkiaa
open Go.ChangeShapes Go.WideShapes Go.ChangeAt Go.RowKit Go.Deep
set_option linter.unusedVariables false
set_option linter.unusedSimpArgs false

theorem side_bd {x y : Int} (h1 : 1 ≤ x) (h2 : x ≤ 200) (h3 : 1 ≤ y) (h4 : y ≤ 200) : 1 ≤ x * y ∧ x * y ≤ 40000 :=
  ⟨Int.le_trans (by omega) (Int.mul_le_mul h1 h3 (by omega) (by omega)), Int.le_trans (Int.mul_le_mul h2 h4 (by omega) (by omega)) (by omega)⟩
/-- the areas of the first k panes -/
def arT (a0 a1 : Nat → Int) : Nat → Int
  | 0 => 0
  | k + 1 => arT a0 a1 k + a0 k * a1 k
@[irreducible] def arS (a0 a1 : Nat → Int) (k : Nat) : Int := arT a0 a1 k
theorem arS_zero (a0 a1 : Nat → Int) : arS a0 a1 0 = 0 := by unfold arS; rfl
theorem arS_succ (a0 a1 : Nat → Int) (k : Nat) : arS a0 a1 (k + 1) = arS a0 a1 k + a0 k * a1 k := by unfold arS; rfl
theorem pn_side {a0 a1 a3 : Nat → Int} {n k : Nat} (h : AllTo (pnOk a0 a1 a3) n) (hk : k < n) : 1 ≤ a0 k ∧ a0 k ≤ 200 ∧ 1 ≤ a1 k ∧ a1 k ≤ 200 := by
  have := vPane_bd (h k hk); omega
theorem arS_bd {a0 a1 a3 : Nat → Int} {n k : Nat} (h : AllTo (pnOk a0 a1 a3) n) (hk : k ≤ n) : 0 ≤ arS a0 a1 k ∧ arS a0 a1 k ≤ 40000 * k := by
  induction k with
  | zero => rw [arS_zero]; omega
  | succ k ih =>
    have := ih (by omega)
    obtain ⟨h1, h2, h3, h4⟩ := pn_side h (show k < n by omega)
    have := side_bd h1 h2 h3 h4
    rw [arS_succ]; omega
@[irreducible] def upDiv (a b : Int) : Int := (a + b - 1) / b
@[irreducible] def arI (x y : Int) (a0 a1 a3 : Nat → Int) (n : Nat) : Int := if vWork x y a0 a1 a3 n = true then upDiv (arS a0 a1 n) (x * y) else -1
theorem arI_no {x y : Int} {a0 a1 a3 : Nat → Int} {n : Nat} (h : vWork x y a0 a1 a3 n = false) : arI x y a0 a1 a3 n = -1 := by unfold arI; rw [h]; rfl
theorem arI_yes {x y : Int} {a0 a1 a3 : Nat → Int} {n : Nat} (h : vWork x y a0 a1 a3 n = true) : arI x y a0 a1 a3 n = upDiv (arS a0 a1 n) (x * y) := by unfold arI; rw [h]; rfl
theorem spec_ceilDiv_c (a b : Int) (w : World) (h : 0 ≤ a ∧ a ≤ 1000000000 ∧ 1 ≤ b ∧ b ≤ 1000000) : Calls Try.prog 73 #[(.int .i64 a), (.int .i64 b)] w (Rs (.int .i64 (upDiv a b)) w) := by
  obtain ⟨h1, h2, h3, h4⟩ := h
  have hu : Hid (upDiv a b = (a + b - 1) / b) := by show _ = _; unfold upDiv; rfl
  go_enter Try.func73, Try.ntmps73
  go_wp2
  go_ret
  exact ⟨ret_int hu.out.symm, rfl⟩
theorem impl_roundUp_c (a b : Int) (w : World) (h : 0 ≤ a ∧ a ≤ 1000000000 ∧ 1 ≤ b ∧ b ≤ 1000000) : Calls Try.prog 74 #[(.int .i64 a), (.int .i64 b)] w (Rs (.int .i64 (upDiv a b)) w) := by
  obtain ⟨h1, h2, h3, h4⟩ := h
  have hu : Hid (upDiv a b = (a + b - 1) / b) := by show _ = _; unfold upDiv; rfl
  go_enter Try.func74, Try.ntmps74
  go_wp2
  go_ret
  exact ⟨ret_int hu.out.symm, rfl⟩
set_option maxHeartbeats 1000000 in
theorem spec_AreaBound_s {b off n cap : Nat} {a0 a1 : Nat → Int} {a2 : Nat → Bool} {a3 : Nat → Int} {w : World} {x y : Int} (h : RSl w b off n cap 4 (paneF a0 a1 a2 a3)) :
    Calls Try.prog 38 #[(.agg #[.int .i64 x, .int .i64 y, .slice (some ⟨b, off, none⟩) n cap])] w (Rt (.int .i64 (arI x y a0 a1 a3 n)) w) := by
  have C1 := fun W (hW : RSl W b off n cap 4 (paneF a0 a1 a2 a3)) => spec_validWork_s (x := x) (y := y) hW
  cases hv : vWork x y a0 a1 a3 n
  · have hg := mkhid (arI_no hv)
    rw [hv] at C1
    go_enter Try.func38, Try.ntmps38
    go_wp2_with fail
    go_at_call 59
    refine (C1 _ (h.below (by repeat' (first | with_reducible exact Below.refl _ _ | with_reducible refine Below.alloc ?_ (by first | omega | (simp; done) | (simp; omega)) _ | with_reducible refine Below.drew ?_ | with_reducible refine below_drewN ?_ _ | with_reducible refine Below.setCell ?_ (by first | omega | (simp; done) | (simp; omega)) _ | with_reducible refine Below.grown ?_ (by assumption) (by first | omega | (simp; done) | (simp; omega)) (by intro k hk; cases hk; omega) | with_reducible refine Below.trans ?_ (Below.mono (by assumption) (by first | omega | (simp; done) | (simp; omega))))))).mono ?_
    rintro e w1 ⟨rfl, hb1⟩
    obtain ⟨hc1, hf1, -, hz1⟩ := bcell hb1
    (try simp at hz1)
    (try (have y1 : w.heap.size ≤ w1.heap.size := by omega))
    (try (have z1_0_0 : w.heap.size < w1.heap.size := by omega))
    (try (have z1_0_1 : w.heap.size + 1 < w1.heap.size := by omega))
    (try (have z1_0_2 : w.heap.size + 1 + 1 < w1.heap.size := by omega))
    (try (have z1_0_3 : w.heap.size + 1 + 1 + 1 < w1.heap.size := by omega))
    go_wp2_with fail
    go_ret
    exact ⟨ret_int hg.out.symm, (by repeat' (first | with_reducible exact Below.refl _ _ | with_reducible refine Below.alloc ?_ (by first | omega | (simp; done) | (simp; omega)) _ | with_reducible refine Below.drew ?_ | with_reducible refine below_drewN ?_ _ | with_reducible refine Below.setCell ?_ (by first | omega | (simp; done) | (simp; omega)) _ | with_reducible refine Below.grown ?_ (by assumption) (by first | omega | (simp; done) | (simp; omega)) (by intro k hk; cases hk; omega) | with_reducible refine Below.trans ?_ (Below.mono (by assumption) (by first | omega | (simp; done) | (simp; omega)))))⟩
  · have hg := mkhid (arI_yes hv)
    obtain ⟨⟨k1, k2, k3, k4⟩, hn24, hall⟩ := vWork_iff.1 hv
    have HA := mkhid hall
    clear hall
    have hsm := h.small
    obtain ⟨b1, b2⟩ := side_bd k1 k2 k3 k4
    rw [hv] at C1
    rw [hg.out]
    clear hg
    go_enter Try.func38, Try.ntmps38
    go_wp2_with fail
    go_at_call 59
    refine (C1 _ (h.below (by repeat' (first | with_reducible exact Below.refl _ _ | with_reducible refine Below.alloc ?_ (by first | omega | (simp; done) | (simp; omega)) _ | with_reducible refine Below.drew ?_ | with_reducible refine below_drewN ?_ _ | with_reducible refine Below.setCell ?_ (by first | omega | (simp; done) | (simp; omega)) _ | with_reducible refine Below.grown ?_ (by assumption) (by first | omega | (simp; done) | (simp; omega)) (by intro k hk; cases hk; omega) | with_reducible refine Below.trans ?_ (Below.mono (by assumption) (by first | omega | (simp; done) | (simp; omega))))))).mono ?_
    rintro e w1 ⟨rfl, hb1⟩
    obtain ⟨hc1, hf1, -, hz1⟩ := bcell hb1
    (try simp at hz1)
    (try (have y1 : w.heap.size ≤ w1.heap.size := by omega))
    (try (have z1_0_0 : w.heap.size < w1.heap.size := by omega))
    (try (have z1_0_1 : w.heap.size + 1 < w1.heap.size := by omega))
    (try (have z1_0_2 : w.heap.size + 1 + 1 < w1.heap.size := by omega))
    (try (have z1_0_3 : w.heap.size + 1 + 1 + 1 < w1.heap.size := by omega))
    go_wp2_with fail
    have q0 : w1.cell? ⟨w.heap.size, 0, none⟩ = some (.int .i64 x) := by go_simp
    have q1 : w1.cell? ⟨w.heap.size, 1, none⟩ = some (.int .i64 y) := by go_simp
    have q2 : w1.cell? ⟨w.heap.size, 2, none⟩ = some (.slice (some ⟨b, off, none⟩) n cap) := by go_simp
    have hB1 : Below w.heap.size w w1 := (by repeat' (first | with_reducible exact Below.refl _ _ | with_reducible refine Below.alloc ?_ (by first | omega | (simp; done) | (simp; omega)) _ | with_reducible refine Below.drew ?_ | with_reducible refine below_drewN ?_ _ | with_reducible refine Below.setCell ?_ (by first | omega | (simp; done) | (simp; omega)) _ | with_reducible refine Below.grown ?_ (by assumption) (by first | omega | (simp; done) | (simp; omega)) (by intro k hk; cases hk; omega) | with_reducible refine Below.trans ?_ (Below.mono (by assumption) (by first | omega | (simp; done) | (simp; omega)))))
    have hgl : w.heap.size < w1.heap.size := by omega
    go_loopw [3, 4] (fun s i wr => ∃ k : Nat, k ≤ n ∧ i = .int .i64 k ∧ s = .int .i64 (arS a0 a1 k) ∧ Below w1.heap.size w1 wr) (fun _ i _ => n - (intOf i).toNat)
    case atStart => exact ⟨0, Nat.zero_le _, rfl, by rw [arS_zero], Below.refl _ _⟩
    case round =>
      obtain ⟨k, hk, rfl, rfl, hbr⟩ := hrel
      have hsz := hbr.size
      have r0 := (hbr.cell (p := ⟨w.heap.size, 0, none⟩) hgl).trans q0
      have r1 := (hbr.cell (p := ⟨w.heap.size, 1, none⟩) hgl).trans q1
      have r2 := (hbr.cell (p := ⟨w.heap.size, 2, none⟩) hgl).trans q2
      have hbw : Below w.heap.size w wr := hB1.trans (hbr.mono hB1.size)
      obtain ⟨s1, s2⟩ := arS_bd HA.out hk
      by_cases hlt : k < n
      · have i1 : (0 : Int) ≤ (k : Int) := by omega
        have i2 : (k : Int) < (n : Int) := by omega
        obtain ⟨c0, c1, c2, c3⟩ := pane_cells (h.below hbw) hlt
        obtain ⟨p1, p2, p3, p4⟩ := pn_side HA.out hlt
        obtain ⟨p5, p6⟩ := side_bd p1 p2 p3 p4
        have hsucc := mkhid (arS_succ a0 a1 k)
        go_wp2_with fail
        go_quiet (fail)
        go_wp2
        go_roundw
        case rel => exact ⟨k + 1, by omega, by go_num, by rw [hsucc.out], (by clear hbw; exact (by repeat' (first | with_reducible exact Below.refl _ _ | with_reducible refine Below.alloc ?_ (by first | omega | (simp; done) | (simp; omega)) _ | with_reducible refine Below.drew ?_ | with_reducible refine below_drewN ?_ _ | with_reducible refine Below.setCell ?_ (by first | omega | (simp; done) | (simp; omega)) _ | with_reducible refine Below.grown ?_ (by assumption) (by first | omega | (simp; done) | (simp; omega)) (by intro k hk; cases hk; omega) | with_reducible refine Below.trans ?_ (Below.mono (by assumption) (by first | omega | (simp; done) | (simp; omega))))))⟩
        case measure => simp [intOf]; omega
      · have hkn := mkhid (show k = n by omega)
        have hs := mkhid (show arS a0 a1 k = arS a0 a1 n by rw [hkn.out])
        have CD := fun W => rs_rt (spec_ceilDiv_c (arS a0 a1 k) (x * y) W (by omega))
        go_wp2_with (go_at_call 73; refine (CD _).mono ?_; rintro e w1 ⟨rfl, hb1⟩; obtain ⟨hc1, hf1, -, hz1⟩ := bcell hb1; (try simp at hz1); (try (have zwr0 : wr.heap.size < w1.heap.size := by omega)))
        go_ret
        exact ⟨ret_int (by rw [hs.out]), (by clear hbr; exact (by repeat' (first | with_reducible exact Below.refl _ _ | with_reducible refine Below.alloc ?_ (by first | omega | (simp; done) | (simp; omega)) _ | with_reducible refine Below.drew ?_ | with_reducible refine below_drewN ?_ _ | with_reducible refine Below.setCell ?_ (by first | omega | (simp; done) | (simp; omega)) _ | with_reducible refine Below.grown ?_ (by assumption) (by first | omega | (simp; done) | (simp; omega)) (by intro k hk; cases hk; omega) | with_reducible refine Below.trans ?_ (Below.mono (by assumption) (by first | omega | (simp; done) | (simp; omega))))))⟩
set_option maxHeartbeats 1000000 in
theorem impl_AreaBound_s {b off n cap : Nat} {a0 a1 : Nat → Int} {a2 : Nat → Bool} {a3 : Nat → Int} {w : World} {x y : Int} (h : RSl w b off n cap 4 (paneF a0 a1 a2 a3)) :
    Calls Try.prog 39 #[(.agg #[.int .i64 x, .int .i64 y, .slice (some ⟨b, off, none⟩) n cap])] w (Rt (.int .i64 (arI x y a0 a1 a3 n)) w) := by
  have C1 := fun W (hW : RSl W b off n cap 4 (paneF a0 a1 a2 a3)) => impl_ValidWork_s (x := x) (y := y) hW
  cases hv : vWork x y a0 a1 a3 n
  · have hg := mkhid (arI_no hv)
    rw [hv] at C1
    go_enter Try.func39, Try.ntmps39
    go_wp2_with fail
    go_at_call 24
    refine (C1 _ (h.below (by repeat' (first | with_reducible exact Below.refl _ _ | with_reducible refine Below.alloc ?_ (by first | omega | (simp; done) | (simp; omega)) _ | with_reducible refine Below.drew ?_ | with_reducible refine below_drewN ?_ _ | with_reducible refine Below.setCell ?_ (by first | omega | (simp; done) | (simp; omega)) _ | with_reducible refine Below.grown ?_ (by assumption) (by first | omega | (simp; done) | (simp; omega)) (by intro k hk; cases hk; omega) | with_reducible refine Below.trans ?_ (Below.mono (by assumption) (by first | omega | (simp; done) | (simp; omega))))))).mono ?_
    rintro e w1 ⟨rfl, hb1⟩
    obtain ⟨hc1, hf1, -, hz1⟩ := bcell hb1
    (try simp at hz1)
    (try (have y1 : w.heap.size ≤ w1.heap.size := by omega))
    (try (have z1_0_0 : w.heap.size < w1.heap.size := by omega))
    (try (have z1_0_1 : w.heap.size + 1 < w1.heap.size := by omega))
    (try (have z1_0_2 : w.heap.size + 1 + 1 < w1.heap.size := by omega))
    (try (have z1_0_3 : w.heap.size + 1 + 1 + 1 < w1.heap.size := by omega))
    go_wp2_with fail
    go_ret
    exact ⟨ret_int hg.out.symm, (by repeat' (first | with_reducible exact Below.refl _ _ | with_reducible refine Below.alloc ?_ (by first | omega | (simp; done) | (simp; omega)) _ | with_reducible refine Below.drew ?_ | with_reducible refine below_drewN ?_ _ | with_reducible refine Below.setCell ?_ (by first | omega | (simp; done) | (simp; omega)) _ | with_reducible refine Below.grown ?_ (by assumption) (by first | omega | (simp; done) | (simp; omega)) (by intro k hk; cases hk; omega) | with_reducible refine Below.trans ?_ (Below.mono (by assumption) (by first | omega | (simp; done) | (simp; omega)))))⟩
  · have hg := mkhid (arI_yes hv)
    obtain ⟨⟨k1, k2, k3, k4⟩, hn24, hall⟩ := vWork_iff.1 hv
    have HA := mkhid hall
    clear hall
    have hsm := h.small
    obtain ⟨b1, b2⟩ := side_bd k1 k2 k3 k4
    rw [hv] at C1
    rw [hg.out]
    clear hg
    go_enter Try.func39, Try.ntmps39
    go_wp2_with fail
    go_at_call 24
    refine (C1 _ (h.below (by repeat' (first | with_reducible exact Below.refl _ _ | with_reducible refine Below.alloc ?_ (by first | omega | (simp; done) | (simp; omega)) _ | with_reducible refine Below.drew ?_ | with_reducible refine below_drewN ?_ _ | with_reducible refine Below.setCell ?_ (by first | omega | (simp; done) | (simp; omega)) _ | with_reducible refine Below.grown ?_ (by assumption) (by first | omega | (simp; done) | (simp; omega)) (by intro k hk; cases hk; omega) | with_reducible refine Below.trans ?_ (Below.mono (by assumption) (by first | omega | (simp; done) | (simp; omega))))))).mono ?_
    rintro e w1 ⟨rfl, hb1⟩
    obtain ⟨hc1, hf1, -, hz1⟩ := bcell hb1
    (try simp at hz1)
    (try (have y1 : w.heap.size ≤ w1.heap.size := by omega))
    (try (have z1_0_0 : w.heap.size < w1.heap.size := by omega))
    (try (have z1_0_1 : w.heap.size + 1 < w1.heap.size := by omega))
    (try (have z1_0_2 : w.heap.size + 1 + 1 < w1.heap.size := by omega))
    (try (have z1_0_3 : w.heap.size + 1 + 1 + 1 < w1.heap.size := by omega))
    have q0 : w1.cell? ⟨w.heap.size, 0, none⟩ = some (.int .i64 x) := by go_simp
    have q1 : w1.cell? ⟨w.heap.size, 1, none⟩ = some (.int .i64 y) := by go_simp
    have q2 : w1.cell? ⟨w.heap.size, 2, none⟩ = some (.slice (some ⟨b, off, none⟩) n cap) := by go_simp
    have hB1 : Below w.heap.size w w1 := (by repeat' (first | with_reducible exact Below.refl _ _ | with_reducible refine Below.alloc ?_ (by first | omega | (simp; done) | (simp; omega)) _ | with_reducible refine Below.drew ?_ | with_reducible refine below_drewN ?_ _ | with_reducible refine Below.setCell ?_ (by first | omega | (simp; done) | (simp; omega)) _ | with_reducible refine Below.grown ?_ (by assumption) (by first | omega | (simp; done) | (simp; omega)) (by intro k hk; cases hk; omega) | with_reducible refine Below.trans ?_ (Below.mono (by assumption) (by first | omega | (simp; done) | (simp; omega)))))
    have hgl : w.heap.size < w1.heap.size := by omega
    go_wp2_with fail
    go_loopw [3, 12] (fun s i wr => ∃ k : Nat, k ≤ n ∧ i = .int .i64 k ∧ s = .int .i64 (arS a0 a1 k) ∧ Below w1.heap.size w1 wr) (fun _ i _ => n - (intOf i).toNat)
    case atStart => exact ⟨0, Nat.zero_le _, rfl, by rw [arS_zero], Below.refl _ _⟩
    case round =>
      obtain ⟨k, hk, rfl, rfl, hbr⟩ := hrel
      have hsz := hbr.size
      have r0 := (hbr.cell (p := ⟨w.heap.size, 0, none⟩) hgl).trans q0
      have r1 := (hbr.cell (p := ⟨w.heap.size, 1, none⟩) hgl).trans q1
      have r2 := (hbr.cell (p := ⟨w.heap.size, 2, none⟩) hgl).trans q2
      have hbw : Below w.heap.size w wr := hB1.trans (hbr.mono hB1.size)
      obtain ⟨s1, s2⟩ := arS_bd HA.out hk
      by_cases hlt : k < n
      · have i1 : (0 : Int) ≤ (k : Int) := by omega
        have i2 : (k : Int) < (n : Int) := by omega
        obtain ⟨c0, c1, c2, c3⟩ := pane_cells (h.below hbw) hlt
        obtain ⟨p1, p2, p3, p4⟩ := pn_side HA.out hlt
        obtain ⟨p5, p6⟩ := side_bd p1 p2 p3 p4
        have hsucc := mkhid (arS_succ a0 a1 k)
        go_wp2
        go_roundw
        case rel => exact ⟨k + 1, by omega, by go_num, by rw [hsucc.out], (by clear hbw; exact (by repeat' (first | with_reducible exact Below.refl _ _ | with_reducible refine Below.alloc ?_ (by first | omega | (simp; done) | (simp; omega)) _ | with_reducible refine Below.drew ?_ | with_reducible refine below_drewN ?_ _ | with_reducible refine Below.setCell ?_ (by first | omega | (simp; done) | (simp; omega)) _ | with_reducible refine Below.grown ?_ (by assumption) (by first | omega | (simp; done) | (simp; omega)) (by intro k hk; cases hk; omega) | with_reducible refine Below.trans ?_ (Below.mono (by assumption) (by first | omega | (simp; done) | (simp; omega))))))⟩
        case measure => simp [intOf]; omega
      · have hkn := mkhid (show k = n by omega)
        have hs := mkhid (show arS a0 a1 k = arS a0 a1 n by rw [hkn.out])
        have CD := fun W => rs_rt (impl_roundUp_c (arS a0 a1 k) (x * y) W (by omega))
        go_wp2_with (go_at_call 74; refine (CD _).mono ?_; rintro e w1 ⟨rfl, hb1⟩; obtain ⟨hc1, hf1, -, hz1⟩ := bcell hb1; (try simp at hz1); (try (have zwr0 : wr.heap.size < w1.heap.size := by omega)))
        go_ret
        exact ⟨ret_int (by rw [hs.out]), (by clear hbr; exact (by repeat' (first | with_reducible exact Below.refl _ _ | with_reducible refine Below.alloc ?_ (by first | omega | (simp; done) | (simp; omega)) _ | with_reducible refine Below.drew ?_ | with_reducible refine below_drewN ?_ _ | with_reducible refine Below.setCell ?_ (by first | omega | (simp; done) | (simp; omega)) _ | with_reducible refine Below.grown ?_ (by assumption) (by first | omega | (simp; done) | (simp; omega)) (by intro k hk; cases hk; omega) | with_reducible refine Below.trans ?_ (Below.mono (by assumption) (by first | omega | (simp; done) | (simp; omega))))))⟩
set_option maxHeartbeats 1600000 in
theorem FnExactValidWork_walk (x y : Int) (v : Value) (n : Nat) (a0 a1 : Nat → Int) (a2 : Nat → Bool) (a3 : Nat → Int) (w : World) (hr : RRaw w v n 4 (paneF a0 a1 a2 a3)) : Calls Try.prog 5 #[(.agg #[.int .i64 x, .int .i64 y, v])] w (Rt (.bool true) w) := by
  have hr' := hr
  obtain ⟨pp, cap, rfl, hn, _⟩ := hr'
  by_cases hl : n ≤ 1048576
  · have hj := hr.isl hl
    have CS := fun W => szWork_c x y pp n cap 1048576 W hn (by omega)
    rw [if_pos (by omega)] at CS
    have d1 : decide ((1048576 : Int) - (n : Int) < 0) = false := decide_eq_false (by omega)
    go_enter Try.func5, Try.ntmps5
    go_wp2_with fail
    go_at_call 21
    refine (CS _).mono ?_
    rintro e w1 ⟨rfl, hb1⟩
    obtain ⟨hc1, hf1, -, hz1⟩ := bcell hb1
    (try simp at hz1)
    (try (have y1 : w.heap.size ≤ w1.heap.size := by omega))
    (try (have z1_0_0 : w.heap.size < w1.heap.size := by omega))
    (try (have z1_0_1 : w.heap.size + 1 < w1.heap.size := by omega))
    (try (have z1_0_2 : w.heap.size + 1 + 1 < w1.heap.size := by omega))
    (try (have z1_0_3 : w.heap.size + 1 + 1 + 1 < w1.heap.size := by omega))
    go_wp2_with fail
    have hB1 : Below w.heap.size w w1 := (by repeat' (first | with_reducible exact Below.refl _ _ | with_reducible refine Below.alloc ?_ (by first | omega | (simp; done) | (simp; omega)) _ | with_reducible refine Below.drew ?_ | with_reducible refine below_drewN ?_ _ | with_reducible refine Below.setCell ?_ (by first | omega | (simp; done) | (simp; omega)) _ | with_reducible refine Below.grown ?_ (by assumption) (by first | omega | (simp; done) | (simp; omega)) (by intro k hk; cases hk; omega) | with_reducible refine Below.trans ?_ (Below.mono (by assumption) (by first | omega | (simp; done) | (simp; omega)))))
    go_at_call 23
    refine (toWork_c x y _ n a0 a1 a2 a3 _ (hj.below (by assumption)) hl).mono ?_
    rintro e w2 ⟨g2, rfl, j2, hb2⟩
    obtain ⟨hc2, hf2, -, hz2⟩ := bcell hb2
    (try simp at hz2)
    (try (have y2 : w.heap.size ≤ w2.heap.size := by omega))
    (try (have z2_0_0 : w.heap.size < w2.heap.size := by omega))
    (try (have z2_0_1 : w.heap.size + 1 < w2.heap.size := by omega))
    (try (have z2_0_2 : w.heap.size + 1 + 1 < w2.heap.size := by omega))
    (try (have z2_0_3 : w.heap.size + 1 + 1 + 1 < w2.heap.size := by omega))
    (try (have z2_1_0 : w1.heap.size < w2.heap.size := by omega))
    (try (have z2_1_1 : w1.heap.size + 1 < w2.heap.size := by omega))
    go_wp2_with fail
    have hB2 : Below w.heap.size w w2 := hB1.trans (hb2.mono hB1.size)
    go_at_call 22
    refine (spec_ValidWork_s j2).mono ?_
    rintro e w3 ⟨rfl, hb3⟩
    obtain ⟨hc3, hf3, -, hz3⟩ := bcell hb3
    (try simp at hz3)
    (try (have y3 : w.heap.size ≤ w3.heap.size := by omega))
    (try (have z3_0_0 : w.heap.size < w3.heap.size := by omega))
    (try (have z3_0_1 : w.heap.size + 1 < w3.heap.size := by omega))
    (try (have z3_0_2 : w.heap.size + 1 + 1 < w3.heap.size := by omega))
    (try (have z3_0_3 : w.heap.size + 1 + 1 + 1 < w3.heap.size := by omega))
    (try (have z3_1_0 : w1.heap.size < w3.heap.size := by omega))
    (try (have z3_1_1 : w1.heap.size + 1 < w3.heap.size := by omega))
    (try (have z3_2_0 : w2.heap.size < w3.heap.size := by omega))
    (try (have z3_2_1 : w2.heap.size + 1 < w3.heap.size := by omega))
    go_wp2_with fail
    have hB3 : Below w.heap.size w w3 := hB2.trans (hb3.mono hB2.size)
    go_at_call 23
    refine (toWork_c x y _ n a0 a1 a2 a3 _ (hj.below (by assumption)) hl).mono ?_
    rintro e w4 ⟨g4, rfl, j4, hb4⟩
    obtain ⟨hc4, hf4, -, hz4⟩ := bcell hb4
    (try simp at hz4)
    (try (have y4 : w.heap.size ≤ w4.heap.size := by omega))
    (try (have z4_0_0 : w.heap.size < w4.heap.size := by omega))
    (try (have z4_0_1 : w.heap.size + 1 < w4.heap.size := by omega))
    (try (have z4_0_2 : w.heap.size + 1 + 1 < w4.heap.size := by omega))
    (try (have z4_0_3 : w.heap.size + 1 + 1 + 1 < w4.heap.size := by omega))
    (try (have z4_1_0 : w1.heap.size < w4.heap.size := by omega))
    (try (have z4_1_1 : w1.heap.size + 1 < w4.heap.size := by omega))
    (try (have z4_2_0 : w2.heap.size < w4.heap.size := by omega))
    (try (have z4_2_1 : w2.heap.size + 1 < w4.heap.size := by omega))
    (try (have z4_3_0 : w3.heap.size < w4.heap.size := by omega))
    (try (have z4_3_1 : w3.heap.size + 1 < w4.heap.size := by omega))
    go_wp2_with fail
    have hB4 : Below w.heap.size w w4 := hB3.trans (hb4.mono hB3.size)
    have z4a : w.heap.size < w4.heap.size + 1 := by omega
    go_at_call 24
    refine (impl_ValidWork_s (j4.below (by repeat' (first | with_reducible exact Below.refl _ _ | with_reducible refine Below.alloc ?_ (by first | omega | (simp; done) | (simp; omega)) _ | with_reducible refine Below.drew ?_ | with_reducible refine below_drewN ?_ _ | with_reducible refine Below.setCell ?_ (by first | omega | (simp; done) | (simp; omega)) _ | with_reducible refine Below.grown ?_ (by assumption) (by first | omega | (simp; done) | (simp; omega)) (by intro k hk; cases hk; omega) | with_reducible refine Below.trans ?_ (Below.mono (by assumption) (by first | omega | (simp; done) | (simp; omega))))))).mono ?_
    rintro e w5 ⟨rfl, hb5⟩
    obtain ⟨hc5, hf5, -, hz5⟩ := bcell hb5
    (try simp at hz5)
    (try (have y5 : w.heap.size ≤ w5.heap.size := by omega))
    (try (have z5_0_0 : w.heap.size < w5.heap.size := by omega))
    (try (have z5_0_1 : w.heap.size + 1 < w5.heap.size := by omega))
    (try (have z5_0_2 : w.heap.size + 1 + 1 < w5.heap.size := by omega))
    (try (have z5_0_3 : w.heap.size + 1 + 1 + 1 < w5.heap.size := by omega))
    (try (have z5_1_0 : w1.heap.size < w5.heap.size := by omega))
    (try (have z5_1_1 : w1.heap.size + 1 < w5.heap.size := by omega))
    (try (have z5_2_0 : w2.heap.size < w5.heap.size := by omega))
    (try (have z5_2_1 : w2.heap.size + 1 < w5.heap.size := by omega))
    (try (have z5_3_0 : w3.heap.size < w5.heap.size := by omega))
    (try (have z5_3_1 : w3.heap.size + 1 < w5.heap.size := by omega))
    (try (have z5_4_0 : w4.heap.size < w5.heap.size := by omega))
    (try (have z5_4_1 : w4.heap.size + 1 < w5.heap.size := by omega))
    go_wp2_with fail
    have hb5' : Below w4.heap.size w4 w5 := by clear hB1 hB2 hB3 hB4 hb1 hb2 hb3 hb4; exact (by repeat' (first | with_reducible exact Below.refl _ _ | with_reducible refine Below.alloc ?_ (by first | omega | (simp; done) | (simp; omega)) _ | with_reducible refine Below.drew ?_ | with_reducible refine below_drewN ?_ _ | with_reducible refine Below.setCell ?_ (by first | omega | (simp; done) | (simp; omega)) _ | with_reducible refine Below.grown ?_ (by assumption) (by first | omega | (simp; done) | (simp; omega)) (by intro k hk; cases hk; omega) | with_reducible refine Below.trans ?_ (Below.mono (by assumption) (by first | omega | (simp; done) | (simp; omega)))))
    have hB5 : Below w.heap.size w w5 := hB4.trans (hb5'.mono hB4.size)
    have j5 := j4.below hb5'
    clear hB1 hB2 hB3 hB4 hb1 hb2 hb3 hb4
    go_region_with (first | (go_at_call 23; refine (toWork_c x y _ n a0 a1 a2 a3 _ (hj.below (by first | exact hB5 | exact Below.drew hB5 | exact below_drewN hB5 _)) hl).mono ?_; rintro e w6 ⟨g6, rfl, j6, hb6⟩; replace hb6 : Below w5.heap.size w5 w6 := (by first | exact hb6 | exact below_und hb6); have hc6 := (bcell hb6).1; have hz6 := hb6.size; (try (have z6_0 : w.heap.size < w6.heap.size := by omega)); (try (have z6_4 : w4.heap.size < w6.heap.size := by omega))) | (go_at_call 25; refine (eqWork_c (j5.below hb6) j6).mono ?_; rintro e w7 ⟨rfl, hb7⟩; have hB7 : Below w.heap.size w w7 := (hB5.trans (hb6.mono hB5.size)).trans (hb7.mono (Nat.le_trans hB5.size hb6.size))))
    all_goals go_wp2
    all_goals go_ret
    all_goals exact ⟨rfl, hB7⟩
  · have CS := fun W => szWork_c x y pp n cap 1048576 W hn (by omega)
    rw [if_neg (by omega)] at CS
    go_enter Try.func5, Try.ntmps5
    go_wp2_with fail
    go_at_call 21
    refine (CS _).mono ?_
    rintro e w1 ⟨rfl, hb1⟩
    obtain ⟨hc1, hf1, -, hz1⟩ := bcell hb1
    (try simp at hz1)
    (try (have y1 : w.heap.size ≤ w1.heap.size := by omega))
    (try (have z1_0_0 : w.heap.size < w1.heap.size := by omega))
    (try (have z1_0_1 : w.heap.size + 1 < w1.heap.size := by omega))
    (try (have z1_0_2 : w.heap.size + 1 + 1 < w1.heap.size := by omega))
    (try (have z1_0_3 : w.heap.size + 1 + 1 + 1 < w1.heap.size := by omega))
    go_wp2_with fail
    go_ret
    exact ⟨rfl, (by repeat' (first | with_reducible exact Below.refl _ _ | with_reducible refine Below.alloc ?_ (by first | omega | (simp; done) | (simp; omega)) _ | with_reducible refine Below.drew ?_ | with_reducible refine below_drewN ?_ _ | with_reducible refine Below.setCell ?_ (by first | omega | (simp; done) | (simp; omega)) _ | with_reducible refine Below.grown ?_ (by assumption) (by first | omega | (simp; done) | (simp; omega)) (by intro k hk; cases hk; omega) | with_reducible refine Below.trans ?_ (Below.mono (by assumption) (by first | omega | (simp; done) | (simp; omega)))))⟩
set_option maxHeartbeats 1600000 in
theorem FnExactAreaBound_walk (x y : Int) (v : Value) (n : Nat) (a0 a1 : Nat → Int) (a2 : Nat → Bool) (a3 : Nat → Int) (w : World) (hr : RRaw w v n 4 (paneF a0 a1 a2 a3)) : Calls Try.prog 9 #[(.agg #[.int .i64 x, .int .i64 y, v])] w (Rt (.bool true) w) := by
  have hr' := hr
  obtain ⟨pp, cap, rfl, hn, _⟩ := hr'
  by_cases hl : n ≤ 1048576
  · have hj := hr.isl hl
    have CS := fun W => szWork_c x y pp n cap 1048576 W hn (by omega)
    rw [if_pos (by omega)] at CS
    have d1 : decide ((1048576 : Int) - (n : Int) < 0) = false := decide_eq_false (by omega)
    go_enter Try.func9, Try.ntmps9
    go_wp2_with fail
    go_at_call 21
    refine (CS _).mono ?_
    rintro e w1 ⟨rfl, hb1⟩
    obtain ⟨hc1, hf1, -, hz1⟩ := bcell hb1
    (try simp at hz1)
    (try (have y1 : w.heap.size ≤ w1.heap.size := by omega))
    (try (have z1_0_0 : w.heap.size < w1.heap.size := by omega))
    (try (have z1_0_1 : w.heap.size + 1 < w1.heap.size := by omega))
    (try (have z1_0_2 : w.heap.size + 1 + 1 < w1.heap.size := by omega))
    (try (have z1_0_3 : w.heap.size + 1 + 1 + 1 < w1.heap.size := by omega))
    go_wp2_with fail
    have hB1 : Below w.heap.size w w1 := (by repeat' (first | with_reducible exact Below.refl _ _ | with_reducible refine Below.alloc ?_ (by first | omega | (simp; done) | (simp; omega)) _ | with_reducible refine Below.drew ?_ | with_reducible refine below_drewN ?_ _ | with_reducible refine Below.setCell ?_ (by first | omega | (simp; done) | (simp; omega)) _ | with_reducible refine Below.grown ?_ (by assumption) (by first | omega | (simp; done) | (simp; omega)) (by intro k hk; cases hk; omega) | with_reducible refine Below.trans ?_ (Below.mono (by assumption) (by first | omega | (simp; done) | (simp; omega)))))
    go_at_call 23
    refine (toWork_c x y _ n a0 a1 a2 a3 _ (hj.below (by assumption)) hl).mono ?_
    rintro e w2 ⟨g2, rfl, j2, hb2⟩
    obtain ⟨hc2, hf2, -, hz2⟩ := bcell hb2
    (try simp at hz2)
    (try (have y2 : w.heap.size ≤ w2.heap.size := by omega))
    (try (have z2_0_0 : w.heap.size < w2.heap.size := by omega))
    (try (have z2_0_1 : w.heap.size + 1 < w2.heap.size := by omega))
    (try (have z2_0_2 : w.heap.size + 1 + 1 < w2.heap.size := by omega))
    (try (have z2_0_3 : w.heap.size + 1 + 1 + 1 < w2.heap.size := by omega))
    (try (have z2_1_0 : w1.heap.size < w2.heap.size := by omega))
    (try (have z2_1_1 : w1.heap.size + 1 < w2.heap.size := by omega))
    go_wp2_with fail
    have hB2 : Below w.heap.size w w2 := hB1.trans (hb2.mono hB1.size)
    go_at_call 38
    refine (spec_AreaBound_s j2).mono ?_
    rintro e w3 ⟨rfl, hb3⟩
    obtain ⟨hc3, hf3, -, hz3⟩ := bcell hb3
    (try simp at hz3)
    (try (have y3 : w.heap.size ≤ w3.heap.size := by omega))
    (try (have z3_0_0 : w.heap.size < w3.heap.size := by omega))
    (try (have z3_0_1 : w.heap.size + 1 < w3.heap.size := by omega))
    (try (have z3_0_2 : w.heap.size + 1 + 1 < w3.heap.size := by omega))
    (try (have z3_0_3 : w.heap.size + 1 + 1 + 1 < w3.heap.size := by omega))
    (try (have z3_1_0 : w1.heap.size < w3.heap.size := by omega))
    (try (have z3_1_1 : w1.heap.size + 1 < w3.heap.size := by omega))
    (try (have z3_2_0 : w2.heap.size < w3.heap.size := by omega))
    (try (have z3_2_1 : w2.heap.size + 1 < w3.heap.size := by omega))
    go_wp2_with fail
    have hB3 : Below w.heap.size w w3 := hB2.trans (hb3.mono hB2.size)
    go_at_call 23
    refine (toWork_c x y _ n a0 a1 a2 a3 _ (hj.below (by assumption)) hl).mono ?_
    rintro e w4 ⟨g4, rfl, j4, hb4⟩
    obtain ⟨hc4, hf4, -, hz4⟩ := bcell hb4
    (try simp at hz4)
    (try (have y4 : w.heap.size ≤ w4.heap.size := by omega))
    (try (have z4_0_0 : w.heap.size < w4.heap.size := by omega))
    (try (have z4_0_1 : w.heap.size + 1 < w4.heap.size := by omega))
    (try (have z4_0_2 : w.heap.size + 1 + 1 < w4.heap.size := by omega))
    (try (have z4_0_3 : w.heap.size + 1 + 1 + 1 < w4.heap.size := by omega))
    (try (have z4_1_0 : w1.heap.size < w4.heap.size := by omega))
    (try (have z4_1_1 : w1.heap.size + 1 < w4.heap.size := by omega))
    (try (have z4_2_0 : w2.heap.size < w4.heap.size := by omega))
    (try (have z4_2_1 : w2.heap.size + 1 < w4.heap.size := by omega))
    (try (have z4_3_0 : w3.heap.size < w4.heap.size := by omega))
    (try (have z4_3_1 : w3.heap.size + 1 < w4.heap.size := by omega))
    go_wp2_with fail
    have hB4 : Below w.heap.size w w4 := hB3.trans (hb4.mono hB3.size)
    have z4a : w.heap.size < w4.heap.size + 1 := by omega
    go_at_call 39
    refine (impl_AreaBound_s (j4.below (by repeat' (first | with_reducible exact Below.refl _ _ | with_reducible refine Below.alloc ?_ (by first | omega | (simp; done) | (simp; omega)) _ | with_reducible refine Below.drew ?_ | with_reducible refine below_drewN ?_ _ | with_reducible refine Below.setCell ?_ (by first | omega | (simp; done) | (simp; omega)) _ | with_reducible refine Below.grown ?_ (by assumption) (by first | omega | (simp; done) | (simp; omega)) (by intro k hk; cases hk; omega) | with_reducible refine Below.trans ?_ (Below.mono (by assumption) (by first | omega | (simp; done) | (simp; omega))))))).mono ?_
    rintro e w5 ⟨rfl, hb5⟩
    obtain ⟨hc5, hf5, -, hz5⟩ := bcell hb5
    (try simp at hz5)
    (try (have y5 : w.heap.size ≤ w5.heap.size := by omega))
    (try (have z5_0_0 : w.heap.size < w5.heap.size := by omega))
    (try (have z5_0_1 : w.heap.size + 1 < w5.heap.size := by omega))
    (try (have z5_0_2 : w.heap.size + 1 + 1 < w5.heap.size := by omega))
    (try (have z5_0_3 : w.heap.size + 1 + 1 + 1 < w5.heap.size := by omega))
    (try (have z5_1_0 : w1.heap.size < w5.heap.size := by omega))
    (try (have z5_1_1 : w1.heap.size + 1 < w5.heap.size := by omega))
    (try (have z5_2_0 : w2.heap.size < w5.heap.size := by omega))
    (try (have z5_2_1 : w2.heap.size + 1 < w5.heap.size := by omega))
    (try (have z5_3_0 : w3.heap.size < w5.heap.size := by omega))
    (try (have z5_3_1 : w3.heap.size + 1 < w5.heap.size := by omega))
    (try (have z5_4_0 : w4.heap.size < w5.heap.size := by omega))
    (try (have z5_4_1 : w4.heap.size + 1 < w5.heap.size := by omega))
    go_wp2_with fail
    have hb5' : Below w4.heap.size w4 w5 := by clear hB1 hB2 hB3 hB4 hb1 hb2 hb3 hb4; exact (by repeat' (first | with_reducible exact Below.refl _ _ | with_reducible refine Below.alloc ?_ (by first | omega | (simp; done) | (simp; omega)) _ | with_reducible refine Below.drew ?_ | with_reducible refine below_drewN ?_ _ | with_reducible refine Below.setCell ?_ (by first | omega | (simp; done) | (simp; omega)) _ | with_reducible refine Below.grown ?_ (by assumption) (by first | omega | (simp; done) | (simp; omega)) (by intro k hk; cases hk; omega) | with_reducible refine Below.trans ?_ (Below.mono (by assumption) (by first | omega | (simp; done) | (simp; omega)))))
    have hB5 : Below w.heap.size w w5 := hB4.trans (hb5'.mono hB4.size)
    have j5 := j4.below hb5'
    clear hB1 hB2 hB3 hB4 hb1 hb2 hb3 hb4
    go_region_with (first | (go_at_call 23; refine (toWork_c x y _ n a0 a1 a2 a3 _ (hj.below (by first | exact hB5 | exact Below.drew hB5 | exact below_drewN hB5 _)) hl).mono ?_; rintro e w6 ⟨g6, rfl, j6, hb6⟩; replace hb6 : Below w5.heap.size w5 w6 := (by first | exact hb6 | exact below_und hb6); have hc6 := (bcell hb6).1; have hz6 := hb6.size; (try (have z6_0 : w.heap.size < w6.heap.size := by omega)); (try (have z6_4 : w4.heap.size < w6.heap.size := by omega))) | (go_at_call 25; refine (eqWork_c (j5.below hb6) j6).mono ?_; rintro e w7 ⟨rfl, hb7⟩; have hB7 : Below w.heap.size w w7 := (hB5.trans (hb6.mono hB5.size)).trans (hb7.mono (Nat.le_trans hB5.size hb6.size))))
    all_goals go_wp2
    all_goals go_ret
    all_goals exact ⟨rfl, hB7⟩
  · have CS := fun W => szWork_c x y pp n cap 1048576 W hn (by omega)
    rw [if_neg (by omega)] at CS
    go_enter Try.func9, Try.ntmps9
    go_wp2_with fail
    go_at_call 21
    refine (CS _).mono ?_
    rintro e w1 ⟨rfl, hb1⟩
    obtain ⟨hc1, hf1, -, hz1⟩ := bcell hb1
    (try simp at hz1)
    (try (have y1 : w.heap.size ≤ w1.heap.size := by omega))
    (try (have z1_0_0 : w.heap.size < w1.heap.size := by omega))
    (try (have z1_0_1 : w.heap.size + 1 < w1.heap.size := by omega))
    (try (have z1_0_2 : w.heap.size + 1 + 1 < w1.heap.size := by omega))
    (try (have z1_0_3 : w.heap.size + 1 + 1 + 1 < w1.heap.size := by omega))
    go_wp2_with fail
    go_ret
    exact ⟨rfl, (by repeat' (first | with_reducible exact Below.refl _ _ | with_reducible refine Below.alloc ?_ (by first | omega | (simp; done) | (simp; omega)) _ | with_reducible refine Below.drew ?_ | with_reducible refine below_drewN ?_ _ | with_reducible refine Below.setCell ?_ (by first | omega | (simp; done) | (simp; omega)) _ | with_reducible refine Below.grown ?_ (by assumption) (by first | omega | (simp; done) | (simp; omega)) (by intro k hk; cases hk; omega) | with_reducible refine Below.trans ?_ (Below.mono (by assumption) (by first | omega | (simp; done) | (simp; omega)))))⟩
end Go.Proofs.Ytjanjaabcinkiaa
