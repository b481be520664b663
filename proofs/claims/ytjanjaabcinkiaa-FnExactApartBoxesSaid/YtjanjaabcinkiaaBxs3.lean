/- ApartBoxes of impl; no statement is proved here. -/
import Derived.Test.YtjanjaabcinkiaaBxs2
namespace Go.Proofs.Ytjanjaabcinkiaa
open Go.ChangeShapes Go.WideShapes Go.ChangeAt Go.RowKit Go.Deep
set_option linter.unusedVariables false
set_option linter.unusedSimpArgs false

set_option maxHeartbeats 1600000 in
theorem impl_ApartBoxes_s {b off n cap : Nat} {a0 a1 a2 a3 : Nat → Int} {w : World} (h : RSl w b off n cap 4 (boxF a0 a1 a2 a3)) :
    Calls Try.prog 36 #[.slice (some ⟨b, off, none⟩) n cap] w (Rt (.bool (vApart a0 a1 a2 a3 n)) w) := by
  have C1 := fun W (hW : RSl W b off n cap 4 (boxF a0 a1 a2 a3)) => impl_validBoxes_s hW
  have hcap1 := h.cap1
  have hcap2 := h.cap2
  cases hv : allB (bxOk a0 a1 a2 a3) 24 n
  · have hg : Hid (vApart a0 a1 a2 a3 n = false) := vApart_no hv
    rw [hv] at C1
    go_enter Try.func36, Try.ntmps36
    go_wp2_with fail
    go_at_call 70
    refine (C1 _ h).mono ?_
    rintro e w1 ⟨rfl, hb1⟩
    obtain ⟨hc1, hf1, -, hz1⟩ := bcell hb1
    (try simp at hz1)
    (try (have y1 : w.heap.size ≤ w1.heap.size := by omega))
    (try (have z1_0_0 : w.heap.size < w1.heap.size := by omega))
    (try (have z1_0_1 : w.heap.size + 1 < w1.heap.size := by omega))
    (try (have z1_0_2 : w.heap.size + 1 + 1 < w1.heap.size := by omega))
    (try (have z1_0_3 : w.heap.size + 1 + 1 + 1 < w1.heap.size := by omega))
    go_wp2_with fail
    go_ret
    exact ⟨ret_bool hg.out.symm, (by repeat' (first | with_reducible exact Below.refl _ _ | with_reducible refine Below.alloc ?_ (by first | omega | (simp; done) | (simp; omega)) _ | with_reducible refine Below.drew ?_ | with_reducible refine below_drewN ?_ _ | with_reducible refine Below.setCell ?_ (by first | omega | (simp; done) | (simp; omega)) _ | with_reducible refine Below.grown ?_ (by assumption) (by first | omega | (simp; done) | (simp; omega)) (by intro k hk; cases hk; omega) | with_reducible refine Below.trans ?_ (Below.mono (by assumption) (by first | omega | (simp; done) | (simp; omega)))))⟩
  · have hg : Hid (vApart a0 a1 a2 a3 n = apartB a0 a1 a2 a3 n) := vApart_yes hv
    have hall := mkhid (allB_iff.1 hv).2
    have hsm := h.small
    rw [hv] at C1
    rw [hg.out]
    clear hg
    go_enter Try.func36, Try.ntmps36
    go_wp2_with fail
    go_at_call 70
    refine (C1 _ h).mono ?_
    rintro e w1 ⟨rfl, hb1⟩
    obtain ⟨hc1, hf1, -, hz1⟩ := bcell hb1
    (try simp at hz1)
    (try (have y1 : w.heap.size ≤ w1.heap.size := by omega))
    (try (have z1_0_0 : w.heap.size < w1.heap.size := by omega))
    (try (have z1_0_1 : w.heap.size + 1 < w1.heap.size := by omega))
    (try (have z1_0_2 : w.heap.size + 1 + 1 < w1.heap.size := by omega))
    (try (have z1_0_3 : w.heap.size + 1 + 1 + 1 < w1.heap.size := by omega))
    go_wp2_with fail
    have h1 := h.below hb1
    go_loopw [14] (fun i wr => ∃ k : Nat, k ≤ n ∧ i = .int .i64 k ∧ Hid (AllTo (apI a0 a1 a2 a3) k) ∧ Below w.heap.size w wr) (fun i _ => n - (intOf i).toNat)
    case atStart => exact ⟨0, Nat.zero_le _, rfl, AllTo.zero _, hb1⟩
    case round =>
      obtain ⟨k, hk, rfl, HB, hbr⟩ := hrel
      have hsz := hbr.size
      by_cases hlt : k < n
      · have i1 : (0 : Int) ≤ (k : Int) := by omega
        have i2 : (k : Int) < (n : Int) := by omega
        have i3 : (k : Int) ≤ (cap : Int) := by omega
        obtain ⟨c0, c1, c2, c3⟩ := box_cells (h.below hbr) hlt
        have hhb := (h.below hbr).lt
        go_wp2_with fail
        obtain ⟨wq, hwq⟩ : ∃ wq : World, wq = wr.alloc (.cells #[(.int .i64 (a0 k)), (.int .i64 (a1 k)), (.int .i64 (a2 k)), (.int .i64 (a3 k))] 78) := ⟨_, rfl⟩
        obtain ⟨g, hg0⟩ : ∃ g, g = wr.heap.size := ⟨_, rfl⟩
        have q0 : wq.cell? ⟨wr.heap.size, 0, none⟩ = some (.int .i64 (a0 k)) := by rw [hwq, World.cell?_alloc_at _ _ _ _ rfl]; rfl
        have q1 : wq.cell? ⟨wr.heap.size, 1, none⟩ = some (.int .i64 (a1 k)) := by rw [hwq, World.cell?_alloc_at _ _ _ _ rfl]; rfl
        have q2 : wq.cell? ⟨wr.heap.size, 2, none⟩ = some (.int .i64 (a2 k)) := by rw [hwq, World.cell?_alloc_at _ _ _ _ rfl]; rfl
        have q3 : wq.cell? ⟨wr.heap.size, 3, none⟩ = some (.int .i64 (a3 k)) := by rw [hwq, World.cell?_alloc_at _ _ _ _ rfl]; rfl
        have hqs : wq.heap.size = wr.heap.size + 1 := by rw [hwq]; simp
        have hbq : Below w.heap.size w wq := by rw [hwq]; exact hbr.alloc hsz _
        rw [← hwq, ← hg0]
        rw [← hg0] at q0 q1 q2 q3 hqs hsz hhb
        clear hwq hbr c0 c1 c2 c3 hg0
        have hgl : g < wq.heap.size := by omega
        have hql : w.heap.size ≤ wq.heap.size := by omega
        have hwb : b < w.heap.size := h.lt
        go_loopw [23] (fun i wr => ∃ j : Nat, j ≤ k ∧ i = .int .i64 j ∧ Hid (AllTo (apJ a0 a1 a2 a3 k) j) ∧ Below wq.heap.size wq wr) (fun i _ => k - (intOf i).toNat)
        case atStart => exact ⟨0, Nat.zero_le _, rfl, AllTo.zero _, Below.refl _ _⟩
        case round =>
          obtain ⟨j, hj, rfl, HJ, hbj⟩ := hrel
          have hsj := hbj.size
          have hbw : Below w.heap.size w wr := hbq.trans (hbj.mono hql)
          by_cases hjk : j < k
          · have j1 : (0 : Int) ≤ (j : Int) := by omega
            have j2 : (j : Int) < (n : Int) := by omega
            have j3 : decide ((j : Int) < (k : Int)) = true := decide_eq_true (by omega)
            have j4 : (j : Int) < (k : Int) := by omega
            have hlb : b < wr.heap.size := by omega
            have hlb1 : ¬ (b = wr.heap.size) := by omega
            have hlb2 : ¬ (wr.heap.size = b) := by omega
            have hgb : g < wr.heap.size := by omega
            have hgb1 : ¬ (g = wr.heap.size) := by omega
            have hgb2 : ¬ (wr.heap.size = g) := by omega
            obtain ⟨e0, e1, e2, e3⟩ := box_cells (h.below hbw) (show j < n by omega)
            have r0 := (hbj.cell (p := ⟨g, 0, none⟩) hgl).trans q0
            have r1 := (hbj.cell (p := ⟨g, 1, none⟩) hgl).trans q1
            have r2 := (hbj.cell (p := ⟨g, 2, none⟩) hgl).trans q2
            have r3 := (hbj.cell (p := ⟨g, 3, none⟩) hgl).trans q3
            have hvk : vBox (a0 k) (a1 k) (a2 k) (a3 k) = true := hall.out k hlt
            have hvj : vBox (a0 j) (a1 j) (a2 j) (a3 j) = true := hall.out j (by omega)
            have HC := fun W => impl_MeetOf_c (a0 k) (a1 k) (a2 k) (a3 k) (a0 j) (a1 j) (a2 j) (a3 j) W
            cases hm : meets (a0 k) (a1 k) (a2 k) (a3 k) (a0 j) (a1 j) (a2 j) (a3 j)
            · have hok := mkhid (HJ.out.succ (show apJ a0 a1 a2 a3 k j = true by unfold apJ; rw [hm]; rfl))
              simp only [meetVal_no (show (vBox (a0 k) (a1 k) (a2 k) (a3 k) && vBox (a0 j) (a1 j) (a2 j) (a3 j) && meets (a0 k) (a1 k) (a2 k) (a3 k) (a0 j) (a1 j) (a2 j) (a3 j)) = false by rw [hvk, hvj, hm]; rfl)] at HC
              clear hm hvk hvj
              go_wp2_with (go_at_call 71; refine (HC _).mono ?_; rintro e w1 ⟨rfl, hb1⟩; obtain ⟨hc1, hf1, -, hz1⟩ := bcell hb1; (try simp at hz1); (try (have zwr0 : wr.heap.size < w1.heap.size := by omega)); (try (have zwr1 : wr.heap.size + 1 < w1.heap.size := by omega)); (try (have zwr2 : wr.heap.size + 1 + 1 < w1.heap.size := by omega)); (try (have zwr3 : wr.heap.size + 1 + 1 + 1 < w1.heap.size := by omega)))
              go_roundw
              case rel => exact ⟨j + 1, by omega, by go_num, hok, (by clear hbw hbq; exact (by repeat' (first | with_reducible exact Below.refl _ _ | with_reducible refine Below.alloc ?_ (by first | omega | (simp; done) | (simp; omega)) _ | with_reducible refine Below.drew ?_ | with_reducible refine below_drewN ?_ _ | with_reducible refine Below.setCell ?_ (by first | omega | (simp; done) | (simp; omega)) _ | with_reducible refine Below.grown ?_ (by assumption) (by first | omega | (simp; done) | (simp; omega)) (by intro k hk; cases hk; omega) | with_reducible refine Below.trans ?_ (Below.mono (by assumption) (by first | omega | (simp; done) | (simp; omega))))))⟩
              case measure => simp [intOf]; omega
            · have hg : Hid (apartB a0 a1 a2 a3 n = false) := apartB_bad hlt hjk hm
              simp only [meetVal_yes hvk hvj hm] at HC
              clear hm hvk hvj
              go_wp2_with (go_at_call 71; refine (HC _).mono ?_; rintro e w1 ⟨rfl, hb1⟩; obtain ⟨hc1, hf1, -, hz1⟩ := bcell hb1; (try simp at hz1); (try (have zwr0 : wr.heap.size < w1.heap.size := by omega)); (try (have zwr1 : wr.heap.size + 1 < w1.heap.size := by omega)); (try (have zwr2 : wr.heap.size + 1 + 1 < w1.heap.size := by omega)); (try (have zwr3 : wr.heap.size + 1 + 1 + 1 < w1.heap.size := by omega)))
              go_ret
              clear hbj hbq
              exact ⟨ret_bool hg.out.symm, (by repeat' (first | with_reducible exact Below.refl _ _ | with_reducible refine Below.alloc ?_ (by first | omega | (simp; done) | (simp; omega)) _ | with_reducible refine Below.drew ?_ | with_reducible refine below_drewN ?_ _ | with_reducible refine Below.setCell ?_ (by first | omega | (simp; done) | (simp; omega)) _ | with_reducible refine Below.grown ?_ (by assumption) (by first | omega | (simp; done) | (simp; omega)) (by intro k hk; cases hk; omega) | with_reducible refine Below.trans ?_ (Below.mono (by assumption) (by first | omega | (simp; done) | (simp; omega)))))⟩
          · have hjk' := mkhid (show j = k by omega)
            have hok := mkhid (HB.out.succ (apI_yes (hjk'.out ▸ HJ.out)))
            have j3 : decide ((j : Int) < (k : Int)) = false := decide_eq_false (by omega)
            go_wp2_with fail
            go_roundw
            case rel => exact ⟨k + 1, by omega, by go_num, hok, hbw⟩
            case measure => simp [intOf]; omega
      · have hkn := mkhid (show k = n by omega)
        have hg : Hid (apartB a0 a1 a2 a3 n = true) := apartB_yes (hkn.out ▸ HB.out)
        go_wp2
        go_ret
        exact ⟨ret_bool hg.out.symm, hbr⟩
set_option maxHeartbeats 1600000 in
theorem FnExactApartBoxes_walk (v : Value) (n : Nat) (a0 a1 a2 a3 : Nat → Int) (w : World) (hr : RRaw w v n 4 (boxF a0 a1 a2 a3)) : Calls Try.prog 8 #[v] w (Rt (.bool true) w) := by
  have hr' := hr
  obtain ⟨pp, cap, rfl, hn, _⟩ := hr'
  by_cases hl : n ≤ 1048576
  · have hj := hr.isl hl
    have CS := fun W => rs_rt (szBoxS_c pp n cap 1048576 W hn (by omega))
    rw [if_pos (by omega)] at CS
    have d1 : decide ((1048576 : Int) - (n : Int) < 0) = false := decide_eq_false (by omega)
    go_enter Try.func8, Try.ntmps8
    go_wp2_with fail
    go_at_call 33
    refine (CS _).mono ?_
    rintro e w1 ⟨rfl, hb1⟩
    obtain ⟨hc1, hf1, -, hz1⟩ := bcell hb1
    (try simp at hz1)
    (try (have y1 : w.heap.size ≤ w1.heap.size := by omega))
    (try (have z1_0_0 : w.heap.size < w1.heap.size := by omega))
    (try (have z1_0_1 : w.heap.size + 1 < w1.heap.size := by omega))
    (try (have z1_0_2 : w.heap.size + 1 + 1 < w1.heap.size := by omega))
    (try (have z1_0_3 : w.heap.size + 1 + 1 + 1 < w1.heap.size := by omega))
    go_wp2_with fail
    go_at_call 35
    refine (toBoxS_c _ n a0 a1 a2 a3 _ (hj.below hb1) hl).mono ?_
    rintro e w2 ⟨g2, rfl, j2, hb2⟩
    obtain ⟨hc2, hf2, -, hz2⟩ := bcell hb2
    (try simp at hz2)
    (try (have y2 : w.heap.size ≤ w2.heap.size := by omega))
    (try (have z2_0_0 : w.heap.size < w2.heap.size := by omega))
    (try (have z2_0_1 : w.heap.size + 1 < w2.heap.size := by omega))
    (try (have z2_0_2 : w.heap.size + 1 + 1 < w2.heap.size := by omega))
    (try (have z2_0_3 : w.heap.size + 1 + 1 + 1 < w2.heap.size := by omega))
    (try (have z2_1_0 : w1.heap.size < w2.heap.size := by omega))
    (try (have z2_1_1 : w1.heap.size + 1 < w2.heap.size := by omega))
    go_wp2_with fail
    go_at_call 34
    refine (spec_ApartBoxes_s j2).mono ?_
    rintro e w3 ⟨rfl, hb3⟩
    obtain ⟨hc3, hf3, -, hz3⟩ := bcell hb3
    (try simp at hz3)
    (try (have y3 : w.heap.size ≤ w3.heap.size := by omega))
    (try (have z3_0_0 : w.heap.size < w3.heap.size := by omega))
    (try (have z3_0_1 : w.heap.size + 1 < w3.heap.size := by omega))
    (try (have z3_0_2 : w.heap.size + 1 + 1 < w3.heap.size := by omega))
    (try (have z3_0_3 : w.heap.size + 1 + 1 + 1 < w3.heap.size := by omega))
    (try (have z3_1_0 : w1.heap.size < w3.heap.size := by omega))
    (try (have z3_1_1 : w1.heap.size + 1 < w3.heap.size := by omega))
    (try (have z3_2_0 : w2.heap.size < w3.heap.size := by omega))
    (try (have z3_2_1 : w2.heap.size + 1 < w3.heap.size := by omega))
    go_wp2_with fail
    have hj3 := ((hj.below hb1).below hb2).below hb3
    go_at_call 35
    refine (toBoxS_c _ n a0 a1 a2 a3 _ hj3 hl).mono ?_
    rintro e w4 ⟨g4, rfl, j4, hb4⟩
    obtain ⟨hc4, hf4, -, hz4⟩ := bcell hb4
    (try simp at hz4)
    (try (have y4 : w.heap.size ≤ w4.heap.size := by omega))
    (try (have z4_0_0 : w.heap.size < w4.heap.size := by omega))
    (try (have z4_0_1 : w.heap.size + 1 < w4.heap.size := by omega))
    (try (have z4_0_2 : w.heap.size + 1 + 1 < w4.heap.size := by omega))
    (try (have z4_0_3 : w.heap.size + 1 + 1 + 1 < w4.heap.size := by omega))
    (try (have z4_1_0 : w1.heap.size < w4.heap.size := by omega))
    (try (have z4_1_1 : w1.heap.size + 1 < w4.heap.size := by omega))
    (try (have z4_2_0 : w2.heap.size < w4.heap.size := by omega))
    (try (have z4_2_1 : w2.heap.size + 1 < w4.heap.size := by omega))
    (try (have z4_3_0 : w3.heap.size < w4.heap.size := by omega))
    (try (have z4_3_1 : w3.heap.size + 1 < w4.heap.size := by omega))
    go_wp2_with fail
    go_at_call 36
    refine (impl_ApartBoxes_s j4).mono ?_
    rintro e w5 ⟨rfl, hb5⟩
    obtain ⟨hc5, hf5, -, hz5⟩ := bcell hb5
    (try simp at hz5)
    (try (have y5 : w.heap.size ≤ w5.heap.size := by omega))
    (try (have z5_0_0 : w.heap.size < w5.heap.size := by omega))
    (try (have z5_0_1 : w.heap.size + 1 < w5.heap.size := by omega))
    (try (have z5_0_2 : w.heap.size + 1 + 1 < w5.heap.size := by omega))
    (try (have z5_0_3 : w.heap.size + 1 + 1 + 1 < w5.heap.size := by omega))
    (try (have z5_1_0 : w1.heap.size < w5.heap.size := by omega))
    (try (have z5_1_1 : w1.heap.size + 1 < w5.heap.size := by omega))
    (try (have z5_2_0 : w2.heap.size < w5.heap.size := by omega))
    (try (have z5_2_1 : w2.heap.size + 1 < w5.heap.size := by omega))
    (try (have z5_3_0 : w3.heap.size < w5.heap.size := by omega))
    (try (have z5_3_1 : w3.heap.size + 1 < w5.heap.size := by omega))
    (try (have z5_4_0 : w4.heap.size < w5.heap.size := by omega))
    (try (have z5_4_1 : w4.heap.size + 1 < w5.heap.size := by omega))
    go_wp2_with fail
    have j5 := j4.below hb5
    go_at_call 35
    refine (toBoxS_c _ n a0 a1 a2 a3 _ ((hj3.below hb4).below hb5) hl).mono ?_
    rintro e w6 ⟨g6, rfl, j6, hb6⟩
    obtain ⟨hc6, hf6, -, hz6⟩ := bcell hb6
    (try simp at hz6)
    (try (have y6 : w.heap.size ≤ w6.heap.size := by omega))
    (try (have z6_0_0 : w.heap.size < w6.heap.size := by omega))
    (try (have z6_0_1 : w.heap.size + 1 < w6.heap.size := by omega))
    (try (have z6_0_2 : w.heap.size + 1 + 1 < w6.heap.size := by omega))
    (try (have z6_0_3 : w.heap.size + 1 + 1 + 1 < w6.heap.size := by omega))
    (try (have z6_1_0 : w1.heap.size < w6.heap.size := by omega))
    (try (have z6_1_1 : w1.heap.size + 1 < w6.heap.size := by omega))
    (try (have z6_2_0 : w2.heap.size < w6.heap.size := by omega))
    (try (have z6_2_1 : w2.heap.size + 1 < w6.heap.size := by omega))
    (try (have z6_3_0 : w3.heap.size < w6.heap.size := by omega))
    (try (have z6_3_1 : w3.heap.size + 1 < w6.heap.size := by omega))
    (try (have z6_4_0 : w4.heap.size < w6.heap.size := by omega))
    (try (have z6_4_1 : w4.heap.size + 1 < w6.heap.size := by omega))
    (try (have z6_5_0 : w5.heap.size < w6.heap.size := by omega))
    (try (have z6_5_1 : w5.heap.size + 1 < w6.heap.size := by omega))
    go_wp2_with fail
    go_at_call 37
    refine (eqBoxS_same (j5.below hb6) j6).mono ?_
    rintro e w7 ⟨rfl, hb7⟩
    obtain ⟨hc7, hf7, -, hz7⟩ := bcell hb7
    (try simp at hz7)
    (try (have y7 : w.heap.size ≤ w7.heap.size := by omega))
    (try (have z7_0_0 : w.heap.size < w7.heap.size := by omega))
    (try (have z7_0_1 : w.heap.size + 1 < w7.heap.size := by omega))
    (try (have z7_0_2 : w.heap.size + 1 + 1 < w7.heap.size := by omega))
    (try (have z7_0_3 : w.heap.size + 1 + 1 + 1 < w7.heap.size := by omega))
    (try (have z7_1_0 : w1.heap.size < w7.heap.size := by omega))
    (try (have z7_1_1 : w1.heap.size + 1 < w7.heap.size := by omega))
    (try (have z7_2_0 : w2.heap.size < w7.heap.size := by omega))
    (try (have z7_2_1 : w2.heap.size + 1 < w7.heap.size := by omega))
    (try (have z7_3_0 : w3.heap.size < w7.heap.size := by omega))
    (try (have z7_3_1 : w3.heap.size + 1 < w7.heap.size := by omega))
    (try (have z7_4_0 : w4.heap.size < w7.heap.size := by omega))
    (try (have z7_4_1 : w4.heap.size + 1 < w7.heap.size := by omega))
    (try (have z7_5_0 : w5.heap.size < w7.heap.size := by omega))
    (try (have z7_5_1 : w5.heap.size + 1 < w7.heap.size := by omega))
    (try (have z7_6_0 : w6.heap.size < w7.heap.size := by omega))
    (try (have z7_6_1 : w6.heap.size + 1 < w7.heap.size := by omega))
    go_wp2_with fail
    go_ret
    exact ⟨rfl, (by repeat' (first | with_reducible exact Below.refl _ _ | with_reducible refine Below.alloc ?_ (by first | omega | (simp; done) | (simp; omega)) _ | with_reducible refine Below.drew ?_ | with_reducible refine below_drewN ?_ _ | with_reducible refine Below.setCell ?_ (by first | omega | (simp; done) | (simp; omega)) _ | with_reducible refine Below.grown ?_ (by assumption) (by first | omega | (simp; done) | (simp; omega)) (by intro k hk; cases hk; omega) | with_reducible refine Below.trans ?_ (Below.mono (by assumption) (by first | omega | (simp; done) | (simp; omega)))))⟩
  · have CS := fun W => rs_rt (szBoxS_c pp n cap 1048576 W hn (by omega))
    rw [if_neg (by omega)] at CS
    go_enter Try.func8, Try.ntmps8
    go_wp2_with fail
    go_at_call 33
    refine (CS _).mono ?_
    rintro e w1 ⟨rfl, hb1⟩
    obtain ⟨hc1, hf1, -, hz1⟩ := bcell hb1
    (try simp at hz1)
    (try (have y1 : w.heap.size ≤ w1.heap.size := by omega))
    (try (have z1_0_0 : w.heap.size < w1.heap.size := by omega))
    (try (have z1_0_1 : w.heap.size + 1 < w1.heap.size := by omega))
    (try (have z1_0_2 : w.heap.size + 1 + 1 < w1.heap.size := by omega))
    (try (have z1_0_3 : w.heap.size + 1 + 1 + 1 < w1.heap.size := by omega))
    go_wp2_with fail
    go_ret
    exact ⟨rfl, (by repeat' (first | with_reducible exact Below.refl _ _ | with_reducible refine Below.alloc ?_ (by first | omega | (simp; done) | (simp; omega)) _ | with_reducible refine Below.drew ?_ | with_reducible refine below_drewN ?_ _ | with_reducible refine Below.setCell ?_ (by first | omega | (simp; done) | (simp; omega)) _ | with_reducible refine Below.grown ?_ (by assumption) (by first | omega | (simp; done) | (simp; omega)) (by intro k hk; cases hk; omega) | with_reducible refine Below.trans ?_ (Below.mono (by assumption) (by first | omega | (simp; done) | (simp; omega)))))⟩
end Go.Proofs.Ytjanjaabcinkiaa
