/- OrderArea (spec and impl), and the walks of the exact laws on ValidOrder and OrderArea; no statement is proved here. -/
import Derived.Test.YtjanjaabcinkiaaOrd3
namespace Go.Proofs.Ytjanjaabcinkiaa
open Go.ChangeShapes Go.WideShapes Go.ChangeAt Go.RowKit Go.Deep
set_option linter.unusedVariables false
set_option linter.unusedSimpArgs false

/-- the areas of the panes of the first k lines -/
def oaT (a0 a1 a4 : Nat → Int) : Nat → Int
  | 0 => 0
  | k + 1 => oaT a0 a1 a4 k + a4 k * a0 k * a1 k
@[irreducible] def oaS (a0 a1 a4 : Nat → Int) (k : Nat) : Int := oaT a0 a1 a4 k
theorem oaS_zero (a0 a1 a4 : Nat → Int) : oaS a0 a1 a4 0 = 0 := by unfold oaS; rfl
theorem oaS_succ (a0 a1 a4 : Nat → Int) (k : Nat) : oaS a0 a1 a4 (k + 1) = oaS a0 a1 a4 k + a4 k * a0 k * a1 k := by unfold oaS; rfl
theorem mul_bd {a x b c : Int} (h1 : 0 ≤ a) (h2 : a ≤ b) (h3 : 0 ≤ x) (h4 : x ≤ c) : 0 ≤ a * x ∧ a * x ≤ b * c :=
  ⟨Int.mul_nonneg h1 h3, Int.mul_le_mul h2 h4 h3 (Int.le_trans h1 h2)⟩
theorem ln_bd {a0 a1 : Nat → Int} {a2 : Nat → Bool} {a3 a4 : Nat → Int} {n k : Nat} (h : AllTo (lnOk a0 a1 a2 a3 a4) n) (hk : k < n) : 0 ≤ a4 k * a0 k ∧ a4 k * a0 k ≤ 4800 ∧ 0 ≤ a4 k * a0 k * a1 k ∧ a4 k * a0 k * a1 k ≤ 960000 := by
  obtain ⟨h1, h2, _⟩ := lnOk_iff.1 (h k hk)
  have hv := vPane_bd h1
  have p1 := mul_bd (a := a4 k) (x := a0 k) (b := 24) (c := 200) (by omega) (by omega) (by omega) (by omega)
  have p2 := mul_bd (a := a4 k * a0 k) (x := a1 k) (b := 4800) (c := 200) p1.1 (by omega) (by omega) (by omega)
  omega
theorem oaS_bd {a0 a1 : Nat → Int} {a2 : Nat → Bool} {a3 a4 : Nat → Int} {n k : Nat} (h : AllTo (lnOk a0 a1 a2 a3 a4) n) (hk : k ≤ n) : 0 ≤ oaS a0 a1 a4 k ∧ oaS a0 a1 a4 k ≤ 960000 * k := by
  induction k with
  | zero => rw [oaS_zero]; omega
  | succ k ih =>
    have := ih (by omega)
    have hc := ln_bd h (show k < n by omega)
    rw [oaS_succ]; omega
@[irreducible] def oaI (a0 a1 : Nat → Int) (a2 : Nat → Bool) (a3 a4 : Nat → Int) (n : Nat) : Int := if vOrd a0 a1 a2 a3 a4 n = true then oaS a0 a1 a4 n else -1
theorem oaI_no {a0 a1 : Nat → Int} {a2 : Nat → Bool} {a3 a4 : Nat → Int} {n : Nat} (h : vOrd a0 a1 a2 a3 a4 n = false) : oaI a0 a1 a2 a3 a4 n = -1 := by unfold oaI; rw [h]; rfl
theorem oaI_yes {a0 a1 : Nat → Int} {a2 : Nat → Bool} {a3 a4 : Nat → Int} {n : Nat} (h : vOrd a0 a1 a2 a3 a4 n = true) : oaI a0 a1 a2 a3 a4 n = oaS a0 a1 a4 n := by unfold oaI; rw [h]; rfl
set_option maxHeartbeats 1000000 in
theorem spec_OrderArea_s {b off n cap : Nat} {a0 a1 : Nat → Int} {a2 : Nat → Bool} {a3 a4 : Nat → Int} {w : World} (h : RSl w b off n cap 5 (lineF a0 a1 a2 a3 a4)) :
    Calls Try.prog 31 #[.slice (some ⟨b, off, none⟩) n cap] w (Rt (.int .i64 (oaI a0 a1 a2 a3 a4 n)) w) := by
  have C1 := spec_validOrder_s h
  cases hv : vOrd a0 a1 a2 a3 a4 n
  · have hg := mkhid (oaI_no hv)
    rw [hv] at C1
    go_enter Try.func31, Try.ntmps31
    go_wp2_with fail
    go_at_call 63
    refine (C1).mono ?_
    rintro e w1 ⟨rfl, hb1⟩
    obtain ⟨hc1, hf1, -, hz1⟩ := bcell hb1
    (try simp at hz1)
    (try (have y1 : w.heap.size ≤ w1.heap.size := by omega))
    (try (have z1_0_0 : w.heap.size < w1.heap.size := by omega))
    (try (have z1_0_1 : w.heap.size + 1 < w1.heap.size := by omega))
    (try (have z1_0_2 : w.heap.size + 1 + 1 < w1.heap.size := by omega))
    (try (have z1_0_3 : w.heap.size + 1 + 1 + 1 < w1.heap.size := by omega))
    go_wp2_with fail
    go_ret
    exact ⟨ret_int hg.out.symm, (by repeat' (first | with_reducible exact Below.refl _ _ | with_reducible refine Below.alloc ?_ (by first | omega | (simp; done) | (simp; omega)) _ | with_reducible refine Below.drew ?_ | with_reducible refine below_drewN ?_ _ | with_reducible refine Below.setCell ?_ (by first | omega | (simp; done) | (simp; omega)) _ | with_reducible refine Below.grown ?_ (by assumption) (by first | omega | (simp; done) | (simp; omega)) (by intro k hk; cases hk; omega) | with_reducible refine Below.trans ?_ (Below.mono (by assumption) (by first | omega | (simp; done) | (simp; omega)))))⟩
  · have hg := mkhid (oaI_yes hv)
    obtain ⟨hn8, hall, htot⟩ := vOrd_iff.1 hv
    have HA := mkhid hall
    clear hall htot
    rw [hv] at C1
    rw [hg.out]
    clear hg
    go_enter Try.func31, Try.ntmps31
    go_wp2_with fail
    go_at_call 63
    refine (C1).mono ?_
    rintro e w1 ⟨rfl, hb1⟩
    obtain ⟨hc1, hf1, -, hz1⟩ := bcell hb1
    (try simp at hz1)
    (try (have y1 : w.heap.size ≤ w1.heap.size := by omega))
    (try (have z1_0_0 : w.heap.size < w1.heap.size := by omega))
    (try (have z1_0_1 : w.heap.size + 1 < w1.heap.size := by omega))
    (try (have z1_0_2 : w.heap.size + 1 + 1 < w1.heap.size := by omega))
    (try (have z1_0_3 : w.heap.size + 1 + 1 + 1 < w1.heap.size := by omega))
    go_wp2_with fail
    go_loopw [3, 4] (fun s i wr => ∃ k : Nat, k ≤ n ∧ i = .int .i64 k ∧ s = .int .i64 (oaS a0 a1 a4 k) ∧ Below w.heap.size w wr) (fun _ i _ => n - (intOf i).toNat)
    case atStart => exact ⟨0, Nat.zero_le _, rfl, by rw [oaS_zero], hb1⟩
    case round =>
      obtain ⟨k, hk, rfl, rfl, hbr⟩ := hrel
      clear hb1
      obtain ⟨s1, s2⟩ := oaS_bd HA.out hk
      by_cases hlt : k < n
      · have i1 : (0 : Int) ≤ (k : Int) := by omega
        have i2 : (k : Int) < (n : Int) := by omega
        obtain ⟨c0, c1, c2, c3, c4⟩ := line_cells (h.below hbr) hlt
        obtain ⟨p1, p2, p3, p4⟩ := ln_bd HA.out hlt
        have hsucc := mkhid (oaS_succ a0 a1 a4 k)
        go_wp2_with fail
        go_quiet (fail)
        go_wp2
        go_roundw
        case rel => exact ⟨k + 1, by omega, by go_num, by rw [hsucc.out], (by repeat' (first | with_reducible exact Below.refl _ _ | with_reducible refine Below.alloc ?_ (by first | omega | (simp; done) | (simp; omega)) _ | with_reducible refine Below.drew ?_ | with_reducible refine below_drewN ?_ _ | with_reducible refine Below.setCell ?_ (by first | omega | (simp; done) | (simp; omega)) _ | with_reducible refine Below.grown ?_ (by assumption) (by first | omega | (simp; done) | (simp; omega)) (by intro k hk; cases hk; omega) | with_reducible refine Below.trans ?_ (Below.mono (by assumption) (by first | omega | (simp; done) | (simp; omega)))))⟩
        case measure => simp [intOf]; omega
      · have hkn := mkhid (show k = n by omega)
        have hs := mkhid (show oaS a0 a1 a4 k = oaS a0 a1 a4 n by rw [hkn.out])
        go_wp2
        go_ret
        exact ⟨ret_int (by rw [hs.out]), hbr⟩
set_option maxHeartbeats 1000000 in
theorem impl_OrderArea_s {b off n cap : Nat} {a0 a1 : Nat → Int} {a2 : Nat → Bool} {a3 a4 : Nat → Int} {w : World} (h : RSl w b off n cap 5 (lineF a0 a1 a2 a3 a4)) :
    Calls Try.prog 32 #[.slice (some ⟨b, off, none⟩) n cap] w (Rt (.int .i64 (oaI a0 a1 a2 a3 a4 n)) w) := by
  have C1 := impl_ValidOrder_s h
  cases hv : vOrd a0 a1 a2 a3 a4 n
  · have hg := mkhid (oaI_no hv)
    rw [hv] at C1
    go_enter Try.func32, Try.ntmps32
    go_wp2_with fail
    go_at_call 29
    refine (C1).mono ?_
    rintro e w1 ⟨rfl, hb1⟩
    obtain ⟨hc1, hf1, -, hz1⟩ := bcell hb1
    (try simp at hz1)
    (try (have y1 : w.heap.size ≤ w1.heap.size := by omega))
    (try (have z1_0_0 : w.heap.size < w1.heap.size := by omega))
    (try (have z1_0_1 : w.heap.size + 1 < w1.heap.size := by omega))
    (try (have z1_0_2 : w.heap.size + 1 + 1 < w1.heap.size := by omega))
    (try (have z1_0_3 : w.heap.size + 1 + 1 + 1 < w1.heap.size := by omega))
    go_wp2_with fail
    go_ret
    exact ⟨ret_int hg.out.symm, (by repeat' (first | with_reducible exact Below.refl _ _ | with_reducible refine Below.alloc ?_ (by first | omega | (simp; done) | (simp; omega)) _ | with_reducible refine Below.drew ?_ | with_reducible refine below_drewN ?_ _ | with_reducible refine Below.setCell ?_ (by first | omega | (simp; done) | (simp; omega)) _ | with_reducible refine Below.grown ?_ (by assumption) (by first | omega | (simp; done) | (simp; omega)) (by intro k hk; cases hk; omega) | with_reducible refine Below.trans ?_ (Below.mono (by assumption) (by first | omega | (simp; done) | (simp; omega)))))⟩
  · have hg := mkhid (oaI_yes hv)
    obtain ⟨hn8, hall, htot⟩ := vOrd_iff.1 hv
    have HA := mkhid hall
    clear hall htot
    rw [hv] at C1
    rw [hg.out]
    clear hg
    go_enter Try.func32, Try.ntmps32
    go_wp2_with fail
    go_at_call 29
    refine (C1).mono ?_
    rintro e w1 ⟨rfl, hb1⟩
    obtain ⟨hc1, hf1, -, hz1⟩ := bcell hb1
    (try simp at hz1)
    (try (have y1 : w.heap.size ≤ w1.heap.size := by omega))
    (try (have z1_0_0 : w.heap.size < w1.heap.size := by omega))
    (try (have z1_0_1 : w.heap.size + 1 < w1.heap.size := by omega))
    (try (have z1_0_2 : w.heap.size + 1 + 1 < w1.heap.size := by omega))
    (try (have z1_0_3 : w.heap.size + 1 + 1 + 1 < w1.heap.size := by omega))
    go_wp2_with fail
    go_loopw [3, 11] (fun s i wr => ∃ k : Nat, k ≤ n ∧ i = .int .i64 k ∧ s = .int .i64 (oaS a0 a1 a4 k) ∧ Below w.heap.size w wr) (fun _ i _ => n - (intOf i).toNat)
    case atStart => exact ⟨0, Nat.zero_le _, rfl, by rw [oaS_zero], hb1⟩
    case round =>
      obtain ⟨k, hk, rfl, rfl, hbr⟩ := hrel
      clear hb1
      obtain ⟨s1, s2⟩ := oaS_bd HA.out hk
      have hsz := hbr.size
      by_cases hlt : k < n
      · have i1 : (0 : Int) ≤ (k : Int) := by omega
        have i2 : (k : Int) < (n : Int) := by omega
        obtain ⟨c0, c1, c2, c3, c4⟩ := line_cells (h.below hbr) hlt
        obtain ⟨p1, p2, p3, p4⟩ := ln_bd HA.out hlt
        have hsucc := mkhid (oaS_succ a0 a1 a4 k)
        go_wp2
        go_roundw
        case rel => exact ⟨k + 1, by omega, by go_num, by rw [hsucc.out], (by repeat' (first | with_reducible exact Below.refl _ _ | with_reducible refine Below.alloc ?_ (by first | omega | (simp; done) | (simp; omega)) _ | with_reducible refine Below.drew ?_ | with_reducible refine below_drewN ?_ _ | with_reducible refine Below.setCell ?_ (by first | omega | (simp; done) | (simp; omega)) _ | with_reducible refine Below.grown ?_ (by assumption) (by first | omega | (simp; done) | (simp; omega)) (by intro k hk; cases hk; omega) | with_reducible refine Below.trans ?_ (Below.mono (by assumption) (by first | omega | (simp; done) | (simp; omega)))))⟩
        case measure => simp [intOf]; omega
      · have hkn := mkhid (show k = n by omega)
        have hs := mkhid (show oaS a0 a1 a4 k = oaS a0 a1 a4 n by rw [hkn.out])
        go_wp2
        go_ret
        exact ⟨ret_int (by rw [hs.out]), hbr⟩
set_option maxHeartbeats 1600000 in
theorem FnExactValidOrder_walk (v : Value) (n : Nat) (a0 a1 : Nat → Int) (a2 : Nat → Bool) (a3 a4 : Nat → Int) (w : World) (hr : RRaw w v n 5 (lineF a0 a1 a2 a3 a4)) : Calls Try.prog 6 #[v] w (Rt (.bool true) w) := by
  have hr' := hr
  obtain ⟨pp, cap, rfl, hn, _⟩ := hr'
  by_cases hl : n ≤ 1048576
  · have hj := hr.isl hl
    have CS := fun W => rs_rt (szLineS_c pp n cap 1048576 W hn (by omega))
    rw [if_pos (by omega)] at CS
    have d1 : decide ((1048576 : Int) - (n : Int) < 0) = false := decide_eq_false (by omega)
    go_enter Try.func6, Try.ntmps6
    go_wp2_with fail
    go_at_call 26
    refine (CS _).mono ?_
    rintro e w1 ⟨rfl, hb1⟩
    obtain ⟨hc1, hf1, -, hz1⟩ := bcell hb1
    (try simp at hz1)
    (try (have y1 : w.heap.size ≤ w1.heap.size := by omega))
    (try (have z1_0_0 : w.heap.size < w1.heap.size := by omega))
    (try (have z1_0_1 : w.heap.size + 1 < w1.heap.size := by omega))
    (try (have z1_0_2 : w.heap.size + 1 + 1 < w1.heap.size := by omega))
    (try (have z1_0_3 : w.heap.size + 1 + 1 + 1 < w1.heap.size := by omega))
    go_wp2_with fail
    go_at_call 28
    refine (toLineS_c _ n a0 a1 a2 a3 a4 _ (hj.below hb1) hl).mono ?_
    rintro e w2 ⟨g2, rfl, -, j2, hb2⟩
    obtain ⟨hc2, hf2, -, hz2⟩ := bcell hb2
    (try simp at hz2)
    (try (have y2 : w.heap.size ≤ w2.heap.size := by omega))
    (try (have z2_0_0 : w.heap.size < w2.heap.size := by omega))
    (try (have z2_0_1 : w.heap.size + 1 < w2.heap.size := by omega))
    (try (have z2_0_2 : w.heap.size + 1 + 1 < w2.heap.size := by omega))
    (try (have z2_0_3 : w.heap.size + 1 + 1 + 1 < w2.heap.size := by omega))
    (try (have z2_1_0 : w1.heap.size < w2.heap.size := by omega))
    (try (have z2_1_1 : w1.heap.size + 1 < w2.heap.size := by omega))
    go_wp2_with fail
    go_at_call 27
    refine (spec_ValidOrder_s j2).mono ?_
    rintro e w3 ⟨rfl, hb3⟩
    obtain ⟨hc3, hf3, -, hz3⟩ := bcell hb3
    (try simp at hz3)
    (try (have y3 : w.heap.size ≤ w3.heap.size := by omega))
    (try (have z3_0_0 : w.heap.size < w3.heap.size := by omega))
    (try (have z3_0_1 : w.heap.size + 1 < w3.heap.size := by omega))
    (try (have z3_0_2 : w.heap.size + 1 + 1 < w3.heap.size := by omega))
    (try (have z3_0_3 : w.heap.size + 1 + 1 + 1 < w3.heap.size := by omega))
    (try (have z3_1_0 : w1.heap.size < w3.heap.size := by omega))
    (try (have z3_1_1 : w1.heap.size + 1 < w3.heap.size := by omega))
    (try (have z3_2_0 : w2.heap.size < w3.heap.size := by omega))
    (try (have z3_2_1 : w2.heap.size + 1 < w3.heap.size := by omega))
    go_wp2_with fail
    have hj3 := ((hj.below hb1).below hb2).below hb3
    go_at_call 28
    refine (toLineS_c _ n a0 a1 a2 a3 a4 _ hj3 hl).mono ?_
    rintro e w4 ⟨g4, rfl, -, j4, hb4⟩
    obtain ⟨hc4, hf4, -, hz4⟩ := bcell hb4
    (try simp at hz4)
    (try (have y4 : w.heap.size ≤ w4.heap.size := by omega))
    (try (have z4_0_0 : w.heap.size < w4.heap.size := by omega))
    (try (have z4_0_1 : w.heap.size + 1 < w4.heap.size := by omega))
    (try (have z4_0_2 : w.heap.size + 1 + 1 < w4.heap.size := by omega))
    (try (have z4_0_3 : w.heap.size + 1 + 1 + 1 < w4.heap.size := by omega))
    (try (have z4_1_0 : w1.heap.size < w4.heap.size := by omega))
    (try (have z4_1_1 : w1.heap.size + 1 < w4.heap.size := by omega))
    (try (have z4_2_0 : w2.heap.size < w4.heap.size := by omega))
    (try (have z4_2_1 : w2.heap.size + 1 < w4.heap.size := by omega))
    (try (have z4_3_0 : w3.heap.size < w4.heap.size := by omega))
    (try (have z4_3_1 : w3.heap.size + 1 < w4.heap.size := by omega))
    go_wp2_with fail
    go_at_call 29
    refine (impl_ValidOrder_s j4).mono ?_
    rintro e w5 ⟨rfl, hb5⟩
    obtain ⟨hc5, hf5, -, hz5⟩ := bcell hb5
    (try simp at hz5)
    (try (have y5 : w.heap.size ≤ w5.heap.size := by omega))
    (try (have z5_0_0 : w.heap.size < w5.heap.size := by omega))
    (try (have z5_0_1 : w.heap.size + 1 < w5.heap.size := by omega))
    (try (have z5_0_2 : w.heap.size + 1 + 1 < w5.heap.size := by omega))
    (try (have z5_0_3 : w.heap.size + 1 + 1 + 1 < w5.heap.size := by omega))
    (try (have z5_1_0 : w1.heap.size < w5.heap.size := by omega))
    (try (have z5_1_1 : w1.heap.size + 1 < w5.heap.size := by omega))
    (try (have z5_2_0 : w2.heap.size < w5.heap.size := by omega))
    (try (have z5_2_1 : w2.heap.size + 1 < w5.heap.size := by omega))
    (try (have z5_3_0 : w3.heap.size < w5.heap.size := by omega))
    (try (have z5_3_1 : w3.heap.size + 1 < w5.heap.size := by omega))
    (try (have z5_4_0 : w4.heap.size < w5.heap.size := by omega))
    (try (have z5_4_1 : w4.heap.size + 1 < w5.heap.size := by omega))
    go_wp2_with fail
    have j5 := j4.below hb5
    go_at_call 28
    refine (toLineS_c _ n a0 a1 a2 a3 a4 _ ((hj3.below hb4).below hb5) hl).mono ?_
    rintro e w6 ⟨g6, rfl, -, j6, hb6⟩
    obtain ⟨hc6, hf6, -, hz6⟩ := bcell hb6
    (try simp at hz6)
    (try (have y6 : w.heap.size ≤ w6.heap.size := by omega))
    (try (have z6_0_0 : w.heap.size < w6.heap.size := by omega))
    (try (have z6_0_1 : w.heap.size + 1 < w6.heap.size := by omega))
    (try (have z6_0_2 : w.heap.size + 1 + 1 < w6.heap.size := by omega))
    (try (have z6_0_3 : w.heap.size + 1 + 1 + 1 < w6.heap.size := by omega))
    (try (have z6_1_0 : w1.heap.size < w6.heap.size := by omega))
    (try (have z6_1_1 : w1.heap.size + 1 < w6.heap.size := by omega))
    (try (have z6_2_0 : w2.heap.size < w6.heap.size := by omega))
    (try (have z6_2_1 : w2.heap.size + 1 < w6.heap.size := by omega))
    (try (have z6_3_0 : w3.heap.size < w6.heap.size := by omega))
    (try (have z6_3_1 : w3.heap.size + 1 < w6.heap.size := by omega))
    (try (have z6_4_0 : w4.heap.size < w6.heap.size := by omega))
    (try (have z6_4_1 : w4.heap.size + 1 < w6.heap.size := by omega))
    (try (have z6_5_0 : w5.heap.size < w6.heap.size := by omega))
    (try (have z6_5_1 : w5.heap.size + 1 < w6.heap.size := by omega))
    go_wp2_with fail
    go_at_call 30
    refine (eqLineS_same (j5.below hb6) j6).mono ?_
    rintro e w7 ⟨rfl, hb7⟩
    obtain ⟨hc7, hf7, -, hz7⟩ := bcell hb7
    (try simp at hz7)
    (try (have y7 : w.heap.size ≤ w7.heap.size := by omega))
    (try (have z7_0_0 : w.heap.size < w7.heap.size := by omega))
    (try (have z7_0_1 : w.heap.size + 1 < w7.heap.size := by omega))
    (try (have z7_0_2 : w.heap.size + 1 + 1 < w7.heap.size := by omega))
    (try (have z7_0_3 : w.heap.size + 1 + 1 + 1 < w7.heap.size := by omega))
    (try (have z7_1_0 : w1.heap.size < w7.heap.size := by omega))
    (try (have z7_1_1 : w1.heap.size + 1 < w7.heap.size := by omega))
    (try (have z7_2_0 : w2.heap.size < w7.heap.size := by omega))
    (try (have z7_2_1 : w2.heap.size + 1 < w7.heap.size := by omega))
    (try (have z7_3_0 : w3.heap.size < w7.heap.size := by omega))
    (try (have z7_3_1 : w3.heap.size + 1 < w7.heap.size := by omega))
    (try (have z7_4_0 : w4.heap.size < w7.heap.size := by omega))
    (try (have z7_4_1 : w4.heap.size + 1 < w7.heap.size := by omega))
    (try (have z7_5_0 : w5.heap.size < w7.heap.size := by omega))
    (try (have z7_5_1 : w5.heap.size + 1 < w7.heap.size := by omega))
    (try (have z7_6_0 : w6.heap.size < w7.heap.size := by omega))
    (try (have z7_6_1 : w6.heap.size + 1 < w7.heap.size := by omega))
    go_wp2_with fail
    go_ret
    exact ⟨rfl, (by repeat' (first | with_reducible exact Below.refl _ _ | with_reducible refine Below.alloc ?_ (by first | omega | (simp; done) | (simp; omega)) _ | with_reducible refine Below.drew ?_ | with_reducible refine below_drewN ?_ _ | with_reducible refine Below.setCell ?_ (by first | omega | (simp; done) | (simp; omega)) _ | with_reducible refine Below.grown ?_ (by assumption) (by first | omega | (simp; done) | (simp; omega)) (by intro k hk; cases hk; omega) | with_reducible refine Below.trans ?_ (Below.mono (by assumption) (by first | omega | (simp; done) | (simp; omega)))))⟩
  · have CS := fun W => rs_rt (szLineS_c pp n cap 1048576 W hn (by omega))
    rw [if_neg (by omega)] at CS
    go_enter Try.func6, Try.ntmps6
    go_wp2_with fail
    go_at_call 26
    refine (CS _).mono ?_
    rintro e w1 ⟨rfl, hb1⟩
    obtain ⟨hc1, hf1, -, hz1⟩ := bcell hb1
    (try simp at hz1)
    (try (have y1 : w.heap.size ≤ w1.heap.size := by omega))
    (try (have z1_0_0 : w.heap.size < w1.heap.size := by omega))
    (try (have z1_0_1 : w.heap.size + 1 < w1.heap.size := by omega))
    (try (have z1_0_2 : w.heap.size + 1 + 1 < w1.heap.size := by omega))
    (try (have z1_0_3 : w.heap.size + 1 + 1 + 1 < w1.heap.size := by omega))
    go_wp2_with fail
    go_ret
    exact ⟨rfl, (by repeat' (first | with_reducible exact Below.refl _ _ | with_reducible refine Below.alloc ?_ (by first | omega | (simp; done) | (simp; omega)) _ | with_reducible refine Below.drew ?_ | with_reducible refine below_drewN ?_ _ | with_reducible refine Below.setCell ?_ (by first | omega | (simp; done) | (simp; omega)) _ | with_reducible refine Below.grown ?_ (by assumption) (by first | omega | (simp; done) | (simp; omega)) (by intro k hk; cases hk; omega) | with_reducible refine Below.trans ?_ (Below.mono (by assumption) (by first | omega | (simp; done) | (simp; omega)))))⟩
set_option maxHeartbeats 1600000 in
theorem FnExactOrderArea_walk (v : Value) (n : Nat) (a0 a1 : Nat → Int) (a2 : Nat → Bool) (a3 a4 : Nat → Int) (w : World) (hr : RRaw w v n 5 (lineF a0 a1 a2 a3 a4)) : Calls Try.prog 7 #[v] w (Rt (.bool true) w) := by
  have hr' := hr
  obtain ⟨pp, cap, rfl, hn, _⟩ := hr'
  by_cases hl : n ≤ 1048576
  · have hj := hr.isl hl
    have CS := fun W => rs_rt (szLineS_c pp n cap 1048576 W hn (by omega))
    rw [if_pos (by omega)] at CS
    have d1 : decide ((1048576 : Int) - (n : Int) < 0) = false := decide_eq_false (by omega)
    go_enter Try.func7, Try.ntmps7
    go_wp2_with fail
    go_at_call 26
    refine (CS _).mono ?_
    rintro e w1 ⟨rfl, hb1⟩
    obtain ⟨hc1, hf1, -, hz1⟩ := bcell hb1
    (try simp at hz1)
    (try (have y1 : w.heap.size ≤ w1.heap.size := by omega))
    (try (have z1_0_0 : w.heap.size < w1.heap.size := by omega))
    (try (have z1_0_1 : w.heap.size + 1 < w1.heap.size := by omega))
    (try (have z1_0_2 : w.heap.size + 1 + 1 < w1.heap.size := by omega))
    (try (have z1_0_3 : w.heap.size + 1 + 1 + 1 < w1.heap.size := by omega))
    go_wp2_with fail
    go_at_call 28
    refine (toLineS_c _ n a0 a1 a2 a3 a4 _ (hj.below hb1) hl).mono ?_
    rintro e w2 ⟨g2, rfl, -, j2, hb2⟩
    obtain ⟨hc2, hf2, -, hz2⟩ := bcell hb2
    (try simp at hz2)
    (try (have y2 : w.heap.size ≤ w2.heap.size := by omega))
    (try (have z2_0_0 : w.heap.size < w2.heap.size := by omega))
    (try (have z2_0_1 : w.heap.size + 1 < w2.heap.size := by omega))
    (try (have z2_0_2 : w.heap.size + 1 + 1 < w2.heap.size := by omega))
    (try (have z2_0_3 : w.heap.size + 1 + 1 + 1 < w2.heap.size := by omega))
    (try (have z2_1_0 : w1.heap.size < w2.heap.size := by omega))
    (try (have z2_1_1 : w1.heap.size + 1 < w2.heap.size := by omega))
    go_wp2_with fail
    go_at_call 31
    refine (spec_OrderArea_s j2).mono ?_
    rintro e w3 ⟨rfl, hb3⟩
    obtain ⟨hc3, hf3, -, hz3⟩ := bcell hb3
    (try simp at hz3)
    (try (have y3 : w.heap.size ≤ w3.heap.size := by omega))
    (try (have z3_0_0 : w.heap.size < w3.heap.size := by omega))
    (try (have z3_0_1 : w.heap.size + 1 < w3.heap.size := by omega))
    (try (have z3_0_2 : w.heap.size + 1 + 1 < w3.heap.size := by omega))
    (try (have z3_0_3 : w.heap.size + 1 + 1 + 1 < w3.heap.size := by omega))
    (try (have z3_1_0 : w1.heap.size < w3.heap.size := by omega))
    (try (have z3_1_1 : w1.heap.size + 1 < w3.heap.size := by omega))
    (try (have z3_2_0 : w2.heap.size < w3.heap.size := by omega))
    (try (have z3_2_1 : w2.heap.size + 1 < w3.heap.size := by omega))
    go_wp2_with fail
    have hj3 := ((hj.below hb1).below hb2).below hb3
    go_at_call 28
    refine (toLineS_c _ n a0 a1 a2 a3 a4 _ hj3 hl).mono ?_
    rintro e w4 ⟨g4, rfl, -, j4, hb4⟩
    obtain ⟨hc4, hf4, -, hz4⟩ := bcell hb4
    (try simp at hz4)
    (try (have y4 : w.heap.size ≤ w4.heap.size := by omega))
    (try (have z4_0_0 : w.heap.size < w4.heap.size := by omega))
    (try (have z4_0_1 : w.heap.size + 1 < w4.heap.size := by omega))
    (try (have z4_0_2 : w.heap.size + 1 + 1 < w4.heap.size := by omega))
    (try (have z4_0_3 : w.heap.size + 1 + 1 + 1 < w4.heap.size := by omega))
    (try (have z4_1_0 : w1.heap.size < w4.heap.size := by omega))
    (try (have z4_1_1 : w1.heap.size + 1 < w4.heap.size := by omega))
    (try (have z4_2_0 : w2.heap.size < w4.heap.size := by omega))
    (try (have z4_2_1 : w2.heap.size + 1 < w4.heap.size := by omega))
    (try (have z4_3_0 : w3.heap.size < w4.heap.size := by omega))
    (try (have z4_3_1 : w3.heap.size + 1 < w4.heap.size := by omega))
    go_wp2_with fail
    go_at_call 32
    refine (impl_OrderArea_s j4).mono ?_
    rintro e w5 ⟨rfl, hb5⟩
    obtain ⟨hc5, hf5, -, hz5⟩ := bcell hb5
    (try simp at hz5)
    (try (have y5 : w.heap.size ≤ w5.heap.size := by omega))
    (try (have z5_0_0 : w.heap.size < w5.heap.size := by omega))
    (try (have z5_0_1 : w.heap.size + 1 < w5.heap.size := by omega))
    (try (have z5_0_2 : w.heap.size + 1 + 1 < w5.heap.size := by omega))
    (try (have z5_0_3 : w.heap.size + 1 + 1 + 1 < w5.heap.size := by omega))
    (try (have z5_1_0 : w1.heap.size < w5.heap.size := by omega))
    (try (have z5_1_1 : w1.heap.size + 1 < w5.heap.size := by omega))
    (try (have z5_2_0 : w2.heap.size < w5.heap.size := by omega))
    (try (have z5_2_1 : w2.heap.size + 1 < w5.heap.size := by omega))
    (try (have z5_3_0 : w3.heap.size < w5.heap.size := by omega))
    (try (have z5_3_1 : w3.heap.size + 1 < w5.heap.size := by omega))
    (try (have z5_4_0 : w4.heap.size < w5.heap.size := by omega))
    (try (have z5_4_1 : w4.heap.size + 1 < w5.heap.size := by omega))
    go_wp2_with fail
    have j5 := j4.below hb5
    go_at_call 28
    refine (toLineS_c _ n a0 a1 a2 a3 a4 _ ((hj3.below hb4).below hb5) hl).mono ?_
    rintro e w6 ⟨g6, rfl, -, j6, hb6⟩
    obtain ⟨hc6, hf6, -, hz6⟩ := bcell hb6
    (try simp at hz6)
    (try (have y6 : w.heap.size ≤ w6.heap.size := by omega))
    (try (have z6_0_0 : w.heap.size < w6.heap.size := by omega))
    (try (have z6_0_1 : w.heap.size + 1 < w6.heap.size := by omega))
    (try (have z6_0_2 : w.heap.size + 1 + 1 < w6.heap.size := by omega))
    (try (have z6_0_3 : w.heap.size + 1 + 1 + 1 < w6.heap.size := by omega))
    (try (have z6_1_0 : w1.heap.size < w6.heap.size := by omega))
    (try (have z6_1_1 : w1.heap.size + 1 < w6.heap.size := by omega))
    (try (have z6_2_0 : w2.heap.size < w6.heap.size := by omega))
    (try (have z6_2_1 : w2.heap.size + 1 < w6.heap.size := by omega))
    (try (have z6_3_0 : w3.heap.size < w6.heap.size := by omega))
    (try (have z6_3_1 : w3.heap.size + 1 < w6.heap.size := by omega))
    (try (have z6_4_0 : w4.heap.size < w6.heap.size := by omega))
    (try (have z6_4_1 : w4.heap.size + 1 < w6.heap.size := by omega))
    (try (have z6_5_0 : w5.heap.size < w6.heap.size := by omega))
    (try (have z6_5_1 : w5.heap.size + 1 < w6.heap.size := by omega))
    go_wp2_with fail
    go_at_call 30
    refine (eqLineS_same (j5.below hb6) j6).mono ?_
    rintro e w7 ⟨rfl, hb7⟩
    obtain ⟨hc7, hf7, -, hz7⟩ := bcell hb7
    (try simp at hz7)
    (try (have y7 : w.heap.size ≤ w7.heap.size := by omega))
    (try (have z7_0_0 : w.heap.size < w7.heap.size := by omega))
    (try (have z7_0_1 : w.heap.size + 1 < w7.heap.size := by omega))
    (try (have z7_0_2 : w.heap.size + 1 + 1 < w7.heap.size := by omega))
    (try (have z7_0_3 : w.heap.size + 1 + 1 + 1 < w7.heap.size := by omega))
    (try (have z7_1_0 : w1.heap.size < w7.heap.size := by omega))
    (try (have z7_1_1 : w1.heap.size + 1 < w7.heap.size := by omega))
    (try (have z7_2_0 : w2.heap.size < w7.heap.size := by omega))
    (try (have z7_2_1 : w2.heap.size + 1 < w7.heap.size := by omega))
    (try (have z7_3_0 : w3.heap.size < w7.heap.size := by omega))
    (try (have z7_3_1 : w3.heap.size + 1 < w7.heap.size := by omega))
    (try (have z7_4_0 : w4.heap.size < w7.heap.size := by omega))
    (try (have z7_4_1 : w4.heap.size + 1 < w7.heap.size := by omega))
    (try (have z7_5_0 : w5.heap.size < w7.heap.size := by omega))
    (try (have z7_5_1 : w5.heap.size + 1 < w7.heap.size := by omega))
    (try (have z7_6_0 : w6.heap.size < w7.heap.size := by omega))
    (try (have z7_6_1 : w6.heap.size + 1 < w7.heap.size := by omega))
    go_wp2_with fail
    go_ret
    exact ⟨rfl, (by repeat' (first | with_reducible exact Below.refl _ _ | with_reducible refine Below.alloc ?_ (by first | omega | (simp; done) | (simp; omega)) _ | with_reducible refine Below.drew ?_ | with_reducible refine below_drewN ?_ _ | with_reducible refine Below.setCell ?_ (by first | omega | (simp; done) | (simp; omega)) _ | with_reducible refine Below.grown ?_ (by assumption) (by first | omega | (simp; done) | (simp; omega)) (by intro k hk; cases hk; omega) | with_reducible refine Below.trans ?_ (Below.mono (by assumption) (by first | omega | (simp; done) | (simp; omega)))))⟩
  · have CS := fun W => rs_rt (szLineS_c pp n cap 1048576 W hn (by omega))
    rw [if_neg (by omega)] at CS
    go_enter Try.func7, Try.ntmps7
    go_wp2_with fail
    go_at_call 26
    refine (CS _).mono ?_
    rintro e w1 ⟨rfl, hb1⟩
    obtain ⟨hc1, hf1, -, hz1⟩ := bcell hb1
    (try simp at hz1)
    (try (have y1 : w.heap.size ≤ w1.heap.size := by omega))
    (try (have z1_0_0 : w.heap.size < w1.heap.size := by omega))
    (try (have z1_0_1 : w.heap.size + 1 < w1.heap.size := by omega))
    (try (have z1_0_2 : w.heap.size + 1 + 1 < w1.heap.size := by omega))
    (try (have z1_0_3 : w.heap.size + 1 + 1 + 1 < w1.heap.size := by omega))
    go_wp2_with fail
    go_ret
    exact ⟨rfl, (by repeat' (first | with_reducible exact Below.refl _ _ | with_reducible refine Below.alloc ?_ (by first | omega | (simp; done) | (simp; omega)) _ | with_reducible refine Below.drew ?_ | with_reducible refine below_drewN ?_ _ | with_reducible refine Below.setCell ?_ (by first | omega | (simp; done) | (simp; omega)) _ | with_reducible refine Below.grown ?_ (by assumption) (by first | omega | (simp; done) | (simp; omega)) (by intro k hk; cases hk; omega) | with_reducible refine Below.trans ?_ (Below.mono (by assumption) (by first | omega | (simp; done) | (simp; omega)))))⟩
end Go.Proofs.Ytjanjaabcinkiaa
