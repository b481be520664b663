/- The walk of the law FnScaleLength; no statement is proved here. -/
import Derived.Test.YthaaclgonfekpaaDraw
import Derived.Test.YthaaclgonfekpaaPlScale
namespace Go.Proofs.Ythaaclgonfekpaa
open Go.ChangeShapes Go.WideShapes Go.ChangeAt Go.RowKit
set_option linter.unusedVariables false
set_option linter.unusedSimpArgs false

set_option maxHeartbeats 1600000 in
theorem FnScaleLength_walk (v : Value) (w : World) (hv : BSl w v) : Calls Try.prog 4 #[v] w (Rt (.bool true) w) := by
  have hv' := hv
  obtain ⟨p, n, cap, rfl, _⟩ := hv'
  by_cases hn : 1048576 < n
  · have d1 : decide (1048576 < (n : Int)) = true := decide_eq_true (by omega)
    go_enter Try.func4, Try.ntmps4
    go_wp2
    go_ret
    exact ⟨rfl, Below.refl _ _⟩
  · have d1 : decide (1048576 < (n : Int)) = false := decide_eq_false (by omega)
    go_enter Try.func4, Try.ntmps4
    go_wp2_with fail
    go_at_call 16
    refine (DrawScaleLength_c hv).mono ?_
    rintro e w1 ⟨a, bar, x, rfl, hb1⟩
    obtain ⟨hc1, hf1, -, hz1⟩ := bcell hb1
    (try simp at hz1)
    (try (have y1 : w.heap.size ≤ w1.heap.size := by omega))
    (try (have z1_0_0 : w.heap.size < w1.heap.size := by omega))
    (try (have z1_0_1 : w.heap.size + 1 < w1.heap.size := by omega))
    (try (have z1_0_2 : w.heap.size + 1 + 1 < w1.heap.size := by omega))
    (try (have z1_0_3 : w.heap.size + 1 + 1 + 1 < w1.heap.size := by omega))
    go_wp2_with fail
    by_cases hs : 1 ≤ a ∧ a ≤ 6 ∧ 1 ≤ bar ∧ bar ≤ 200 ∧ 0 ≤ x ∧ x ≤ bar
    · have hI := scaleI_yes hs
      have hbd := scale_bd hs
      obtain ⟨v, hv1⟩ : ∃ v, v = scaleN a bar x := ⟨_, rfl⟩
      have hs2 : 1 ≤ a ∧ a ≤ 6 ∧ 1 ≤ bar ∧ bar ≤ 200 ∧ 0 ≤ bar - x ∧ bar - x ≤ bar := by omega
      have hI2 := scaleI_yes hs2
      have hbd2 := scale_bd hs2
      have hpair := scale_pair hs
      obtain ⟨v2, hv2⟩ : ∃ v2, v2 = scaleN a bar (bar - x) := ⟨_, rfl⟩
      have hI3 : scaleI a bar bar = a * bar := by rw [scaleI_yes (by omega), scale_all (by omega)]
      have hp := prod_bd (a := a) (x := bar) (b := 7) (c := 200) (by omega) (by omega) (by omega) (by omega)
      have hup : x < bar → v ≤ scaleN a bar (x + 1) := fun hh => hv1 ▸ scale_up (by omega)
      have hI4 : x < bar → scaleI a bar (x + 1) = scaleN a bar (x + 1) := fun hh => scaleI_yes (by omega)
      rw [← hv1] at hI hbd hpair
      rw [← hv2] at hI2 hbd2 hpair
      clear hv1 hv2 hs2
      obtain ⟨b1, b2⟩ := hbd
      obtain ⟨b3, b4⟩ := hbd2
      obtain ⟨b5, b6⟩ := hp
      obtain ⟨s1, s2, s3, s4, s5, s6⟩ := hs
      have C1 := fun W => rs_rt (impl_ScaleLength_c a bar x W)
      have C2 := fun W => rs_rt (spec_ScaleLength_c a bar x W)
      have C3 := fun W => rs_rt (impl_ScaleLength_c a bar (bar - x) W)
      have C4 := fun W => rs_rt (impl_ScaleLength_c a bar (x + 1) W)
      have C5 := fun W => rs_rt (impl_ScaleLength_c a bar bar W)
      rw [hI] at C1 C2
      rw [hI2] at C3
      rw [hI3] at C5
      have t1 : decide (v < 0) = false := decide_eq_false (by omega)
      have t2 : decide (v + v2 ≤ a * bar) = true := decide_eq_true hpair
      by_cases hx : x = bar
      · have t3 : (x == bar) = true := by simpa using hx
        clear hI hI2 hI3 hI4 hup hx
        go_at_call 17
        refine (C1 _).mono ?_
        rintro e w2 ⟨rfl, hb2⟩
        obtain ⟨hc2, hf2, -, hz2⟩ := bcell hb2
        (try simp at hz2)
        (try (have y2 : w.heap.size ≤ w2.heap.size := by omega))
        (try (have z2_0_0 : w.heap.size < w2.heap.size := by omega))
        (try (have z2_0_1 : w.heap.size + 1 < w2.heap.size := by omega))
        (try (have z2_0_2 : w.heap.size + 1 + 1 < w2.heap.size := by omega))
        (try (have z2_0_3 : w.heap.size + 1 + 1 + 1 < w2.heap.size := by omega))
        (try (have z2_1_0 : w1.heap.size < w2.heap.size := by omega))
        (try (have z2_1_1 : w1.heap.size + 1 < w2.heap.size := by omega))
        go_wp2_with fail
        go_at_call 18
        refine (C2 _).mono ?_
        rintro e w3 ⟨rfl, hb3⟩
        obtain ⟨hc3, hf3, -, hz3⟩ := bcell hb3
        (try simp at hz3)
        (try (have y3 : w.heap.size ≤ w3.heap.size := by omega))
        (try (have z3_0_0 : w.heap.size < w3.heap.size := by omega))
        (try (have z3_0_1 : w.heap.size + 1 < w3.heap.size := by omega))
        (try (have z3_0_2 : w.heap.size + 1 + 1 < w3.heap.size := by omega))
        (try (have z3_0_3 : w.heap.size + 1 + 1 + 1 < w3.heap.size := by omega))
        (try (have z3_1_0 : w1.heap.size < w3.heap.size := by omega))
        (try (have z3_1_1 : w1.heap.size + 1 < w3.heap.size := by omega))
        (try (have z3_2_0 : w2.heap.size < w3.heap.size := by omega))
        (try (have z3_2_1 : w2.heap.size + 1 < w3.heap.size := by omega))
        go_wp2_with fail
        go_at_call 17
        refine (C3 _).mono ?_
        rintro e w4 ⟨rfl, hb4⟩
        obtain ⟨hc4, hf4, -, hz4⟩ := bcell hb4
        (try simp at hz4)
        (try (have y4 : w.heap.size ≤ w4.heap.size := by omega))
        (try (have z4_0_0 : w.heap.size < w4.heap.size := by omega))
        (try (have z4_0_1 : w.heap.size + 1 < w4.heap.size := by omega))
        (try (have z4_0_2 : w.heap.size + 1 + 1 < w4.heap.size := by omega))
        (try (have z4_0_3 : w.heap.size + 1 + 1 + 1 < w4.heap.size := by omega))
        (try (have z4_1_0 : w1.heap.size < w4.heap.size := by omega))
        (try (have z4_1_1 : w1.heap.size + 1 < w4.heap.size := by omega))
        (try (have z4_2_0 : w2.heap.size < w4.heap.size := by omega))
        (try (have z4_2_1 : w2.heap.size + 1 < w4.heap.size := by omega))
        (try (have z4_3_0 : w3.heap.size < w4.heap.size := by omega))
        (try (have z4_3_1 : w3.heap.size + 1 < w4.heap.size := by omega))
        go_wp2_with fail
        go_at_call 17
        refine (C5 _).mono ?_
        rintro e w5 ⟨rfl, hb5⟩
        obtain ⟨hc5, hf5, -, hz5⟩ := bcell hb5
        (try simp at hz5)
        (try (have y5 : w.heap.size ≤ w5.heap.size := by omega))
        (try (have z5_0_0 : w.heap.size < w5.heap.size := by omega))
        (try (have z5_0_1 : w.heap.size + 1 < w5.heap.size := by omega))
        (try (have z5_0_2 : w.heap.size + 1 + 1 < w5.heap.size := by omega))
        (try (have z5_0_3 : w.heap.size + 1 + 1 + 1 < w5.heap.size := by omega))
        (try (have z5_1_0 : w1.heap.size < w5.heap.size := by omega))
        (try (have z5_1_1 : w1.heap.size + 1 < w5.heap.size := by omega))
        (try (have z5_2_0 : w2.heap.size < w5.heap.size := by omega))
        (try (have z5_2_1 : w2.heap.size + 1 < w5.heap.size := by omega))
        (try (have z5_3_0 : w3.heap.size < w5.heap.size := by omega))
        (try (have z5_3_1 : w3.heap.size + 1 < w5.heap.size := by omega))
        (try (have z5_4_0 : w4.heap.size < w5.heap.size := by omega))
        (try (have z5_4_1 : w4.heap.size + 1 < w5.heap.size := by omega))
        go_wp2_with fail
        go_ret
        exact ⟨rfl, (by repeat' (first | with_reducible exact Below.refl _ _ | with_reducible refine Below.alloc ?_ (by first | omega | (simp; done) | (simp; omega)) _ | with_reducible refine Below.drew ?_ | with_reducible refine below_drewN ?_ _ | with_reducible refine Below.setCell ?_ (by first | omega | (simp; done) | (simp; omega)) _ | with_reducible refine Below.grown ?_ (by assumption) (by first | omega | (simp; done) | (simp; omega)) (by intro k hk; cases hk; omega) | with_reducible refine Below.trans ?_ (Below.mono (by assumption) (by first | omega | (simp; done) | (simp; omega)))))⟩
      · have t3 : (x == bar) = false := by simpa using hx
        have hu := hup (by omega)
        rw [hI4 (by omega)] at C4
        have t4 : decide (v ≤ scaleN a bar (x + 1)) = true := decide_eq_true hu
        clear hI hI2 hI3 hI4 hup hx
        go_at_call 17
        refine (C1 _).mono ?_
        rintro e w2 ⟨rfl, hb2⟩
        obtain ⟨hc2, hf2, -, hz2⟩ := bcell hb2
        (try simp at hz2)
        (try (have y2 : w.heap.size ≤ w2.heap.size := by omega))
        (try (have z2_0_0 : w.heap.size < w2.heap.size := by omega))
        (try (have z2_0_1 : w.heap.size + 1 < w2.heap.size := by omega))
        (try (have z2_0_2 : w.heap.size + 1 + 1 < w2.heap.size := by omega))
        (try (have z2_0_3 : w.heap.size + 1 + 1 + 1 < w2.heap.size := by omega))
        (try (have z2_1_0 : w1.heap.size < w2.heap.size := by omega))
        (try (have z2_1_1 : w1.heap.size + 1 < w2.heap.size := by omega))
        go_wp2_with fail
        go_at_call 18
        refine (C2 _).mono ?_
        rintro e w3 ⟨rfl, hb3⟩
        obtain ⟨hc3, hf3, -, hz3⟩ := bcell hb3
        (try simp at hz3)
        (try (have y3 : w.heap.size ≤ w3.heap.size := by omega))
        (try (have z3_0_0 : w.heap.size < w3.heap.size := by omega))
        (try (have z3_0_1 : w.heap.size + 1 < w3.heap.size := by omega))
        (try (have z3_0_2 : w.heap.size + 1 + 1 < w3.heap.size := by omega))
        (try (have z3_0_3 : w.heap.size + 1 + 1 + 1 < w3.heap.size := by omega))
        (try (have z3_1_0 : w1.heap.size < w3.heap.size := by omega))
        (try (have z3_1_1 : w1.heap.size + 1 < w3.heap.size := by omega))
        (try (have z3_2_0 : w2.heap.size < w3.heap.size := by omega))
        (try (have z3_2_1 : w2.heap.size + 1 < w3.heap.size := by omega))
        go_wp2_with fail
        go_at_call 17
        refine (C3 _).mono ?_
        rintro e w4 ⟨rfl, hb4⟩
        obtain ⟨hc4, hf4, -, hz4⟩ := bcell hb4
        (try simp at hz4)
        (try (have y4 : w.heap.size ≤ w4.heap.size := by omega))
        (try (have z4_0_0 : w.heap.size < w4.heap.size := by omega))
        (try (have z4_0_1 : w.heap.size + 1 < w4.heap.size := by omega))
        (try (have z4_0_2 : w.heap.size + 1 + 1 < w4.heap.size := by omega))
        (try (have z4_0_3 : w.heap.size + 1 + 1 + 1 < w4.heap.size := by omega))
        (try (have z4_1_0 : w1.heap.size < w4.heap.size := by omega))
        (try (have z4_1_1 : w1.heap.size + 1 < w4.heap.size := by omega))
        (try (have z4_2_0 : w2.heap.size < w4.heap.size := by omega))
        (try (have z4_2_1 : w2.heap.size + 1 < w4.heap.size := by omega))
        (try (have z4_3_0 : w3.heap.size < w4.heap.size := by omega))
        (try (have z4_3_1 : w3.heap.size + 1 < w4.heap.size := by omega))
        go_wp2_with fail
        go_at_call 17
        refine (C4 _).mono ?_
        rintro e w5 ⟨rfl, hb5⟩
        obtain ⟨hc5, hf5, -, hz5⟩ := bcell hb5
        (try simp at hz5)
        (try (have y5 : w.heap.size ≤ w5.heap.size := by omega))
        (try (have z5_0_0 : w.heap.size < w5.heap.size := by omega))
        (try (have z5_0_1 : w.heap.size + 1 < w5.heap.size := by omega))
        (try (have z5_0_2 : w.heap.size + 1 + 1 < w5.heap.size := by omega))
        (try (have z5_0_3 : w.heap.size + 1 + 1 + 1 < w5.heap.size := by omega))
        (try (have z5_1_0 : w1.heap.size < w5.heap.size := by omega))
        (try (have z5_1_1 : w1.heap.size + 1 < w5.heap.size := by omega))
        (try (have z5_2_0 : w2.heap.size < w5.heap.size := by omega))
        (try (have z5_2_1 : w2.heap.size + 1 < w5.heap.size := by omega))
        (try (have z5_3_0 : w3.heap.size < w5.heap.size := by omega))
        (try (have z5_3_1 : w3.heap.size + 1 < w5.heap.size := by omega))
        (try (have z5_4_0 : w4.heap.size < w5.heap.size := by omega))
        (try (have z5_4_1 : w4.heap.size + 1 < w5.heap.size := by omega))
        go_wp2_with fail
        go_at_call 17
        refine (C5 _).mono ?_
        rintro e w6 ⟨rfl, hb6⟩
        obtain ⟨hc6, hf6, -, hz6⟩ := bcell hb6
        (try simp at hz6)
        (try (have y6 : w.heap.size ≤ w6.heap.size := by omega))
        (try (have z6_0_0 : w.heap.size < w6.heap.size := by omega))
        (try (have z6_0_1 : w.heap.size + 1 < w6.heap.size := by omega))
        (try (have z6_0_2 : w.heap.size + 1 + 1 < w6.heap.size := by omega))
        (try (have z6_0_3 : w.heap.size + 1 + 1 + 1 < w6.heap.size := by omega))
        (try (have z6_1_0 : w1.heap.size < w6.heap.size := by omega))
        (try (have z6_1_1 : w1.heap.size + 1 < w6.heap.size := by omega))
        (try (have z6_2_0 : w2.heap.size < w6.heap.size := by omega))
        (try (have z6_2_1 : w2.heap.size + 1 < w6.heap.size := by omega))
        (try (have z6_3_0 : w3.heap.size < w6.heap.size := by omega))
        (try (have z6_3_1 : w3.heap.size + 1 < w6.heap.size := by omega))
        (try (have z6_4_0 : w4.heap.size < w6.heap.size := by omega))
        (try (have z6_4_1 : w4.heap.size + 1 < w6.heap.size := by omega))
        (try (have z6_5_0 : w5.heap.size < w6.heap.size := by omega))
        (try (have z6_5_1 : w5.heap.size + 1 < w6.heap.size := by omega))
        go_wp2_with fail
        go_ret
        exact ⟨rfl, (by repeat' (first | with_reducible exact Below.refl _ _ | with_reducible refine Below.alloc ?_ (by first | omega | (simp; done) | (simp; omega)) _ | with_reducible refine Below.drew ?_ | with_reducible refine below_drewN ?_ _ | with_reducible refine Below.setCell ?_ (by first | omega | (simp; done) | (simp; omega)) _ | with_reducible refine Below.grown ?_ (by assumption) (by first | omega | (simp; done) | (simp; omega)) (by intro k hk; cases hk; omega) | with_reducible refine Below.trans ?_ (Below.mono (by assumption) (by first | omega | (simp; done) | (simp; omega)))))⟩
    · have hI := scaleI_no hs
      have C1 := fun W => rs_rt (impl_ScaleLength_c a bar x W)
      have C2 := fun W => rs_rt (spec_ScaleLength_c a bar x W)
      rw [hI] at C1 C2
      clear hI hs
      go_at_call 17
      refine (C1 _).mono ?_
      rintro e w2 ⟨rfl, hb2⟩
      obtain ⟨hc2, hf2, -, hz2⟩ := bcell hb2
      (try simp at hz2)
      (try (have y2 : w.heap.size ≤ w2.heap.size := by omega))
      (try (have z2_0_0 : w.heap.size < w2.heap.size := by omega))
      (try (have z2_0_1 : w.heap.size + 1 < w2.heap.size := by omega))
      (try (have z2_0_2 : w.heap.size + 1 + 1 < w2.heap.size := by omega))
      (try (have z2_0_3 : w.heap.size + 1 + 1 + 1 < w2.heap.size := by omega))
      (try (have z2_1_0 : w1.heap.size < w2.heap.size := by omega))
      (try (have z2_1_1 : w1.heap.size + 1 < w2.heap.size := by omega))
      go_wp2_with fail
      go_at_call 18
      refine (C2 _).mono ?_
      rintro e w3 ⟨rfl, hb3⟩
      obtain ⟨hc3, hf3, -, hz3⟩ := bcell hb3
      (try simp at hz3)
      (try (have y3 : w.heap.size ≤ w3.heap.size := by omega))
      (try (have z3_0_0 : w.heap.size < w3.heap.size := by omega))
      (try (have z3_0_1 : w.heap.size + 1 < w3.heap.size := by omega))
      (try (have z3_0_2 : w.heap.size + 1 + 1 < w3.heap.size := by omega))
      (try (have z3_0_3 : w.heap.size + 1 + 1 + 1 < w3.heap.size := by omega))
      (try (have z3_1_0 : w1.heap.size < w3.heap.size := by omega))
      (try (have z3_1_1 : w1.heap.size + 1 < w3.heap.size := by omega))
      (try (have z3_2_0 : w2.heap.size < w3.heap.size := by omega))
      (try (have z3_2_1 : w2.heap.size + 1 < w3.heap.size := by omega))
      go_wp2_with fail
      go_at_call 18
      refine (C2 _).mono ?_
      rintro e w4 ⟨rfl, hb4⟩
      obtain ⟨hc4, hf4, -, hz4⟩ := bcell hb4
      (try simp at hz4)
      (try (have y4 : w.heap.size ≤ w4.heap.size := by omega))
      (try (have z4_0_0 : w.heap.size < w4.heap.size := by omega))
      (try (have z4_0_1 : w.heap.size + 1 < w4.heap.size := by omega))
      (try (have z4_0_2 : w.heap.size + 1 + 1 < w4.heap.size := by omega))
      (try (have z4_0_3 : w.heap.size + 1 + 1 + 1 < w4.heap.size := by omega))
      (try (have z4_1_0 : w1.heap.size < w4.heap.size := by omega))
      (try (have z4_1_1 : w1.heap.size + 1 < w4.heap.size := by omega))
      (try (have z4_2_0 : w2.heap.size < w4.heap.size := by omega))
      (try (have z4_2_1 : w2.heap.size + 1 < w4.heap.size := by omega))
      (try (have z4_3_0 : w3.heap.size < w4.heap.size := by omega))
      (try (have z4_3_1 : w3.heap.size + 1 < w4.heap.size := by omega))
      go_wp2_with fail
      go_ret
      exact ⟨rfl, (by repeat' (first | with_reducible exact Below.refl _ _ | with_reducible refine Below.alloc ?_ (by first | omega | (simp; done) | (simp; omega)) _ | with_reducible refine Below.drew ?_ | with_reducible refine below_drewN ?_ _ | with_reducible refine Below.setCell ?_ (by first | omega | (simp; done) | (simp; omega)) _ | with_reducible refine Below.grown ?_ (by assumption) (by first | omega | (simp; done) | (simp; omega)) (by intro k hk; cases hk; omega) | with_reducible refine Below.trans ?_ (Below.mono (by assumption) (by first | omega | (simp; done) | (simp; omega)))))⟩
end Go.Proofs.Ythaaclgonfekpaa
