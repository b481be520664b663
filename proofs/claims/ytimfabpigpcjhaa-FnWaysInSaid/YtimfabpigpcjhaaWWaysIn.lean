/- The walk of the law FnWaysIn; no statement is proved here. -/
import Derived.Test.YtimfabpigpcjhaaDrawW
import Derived.Test.YtimfabpigpcjhaaTurnP
namespace Go.Proofs.Ytimfabpigpcjhaa
open Go.ChangeShapes Go.WideShapes Go.ChangeAt Go.RowKit
set_option linter.unusedVariables false
set_option linter.unusedSimpArgs false

theorem waysN_bd (pw ph : Int) (t : Bool) (w h : Int) : 0 ≤ waysN pw ph t w h ∧ waysN pw ph t w h ≤ 2 := by
  unfold waysN; (repeat' split) <;> omega
theorem waysN_turn (pw ph : Int) (t : Bool) (w h : Int) : waysN ph pw t h w = waysN pw ph t w h := by
  unfold waysN
  have e1 : (ph ≤ h ∧ pw ≤ w) ↔ (pw ≤ w ∧ ph ≤ h) := And.comm
  have e2 : (t = true ∧ ph ≠ pw ∧ pw ≤ h ∧ ph ≤ w) ↔ (t = true ∧ pw ≠ ph ∧ ph ≤ w ∧ pw ≤ h) := by
    constructor
    · rintro ⟨a, b, c, d⟩; exact ⟨a, Ne.symm b, d, c⟩
    · rintro ⟨a, b, c, d⟩; exact ⟨a, Ne.symm b, d, c⟩
  simp only [e1, e2]
theorem waysN_up (pw ph : Int) (t : Bool) (w h : Int) : waysN pw ph t w h ≤ waysN pw ph t (w + 1) h := by
  unfold waysN
  have m1 : (pw ≤ w ∧ ph ≤ h) → (pw ≤ w + 1 ∧ ph ≤ h) := fun ⟨a, b⟩ => ⟨by omega, b⟩
  have m2 : (t = true ∧ pw ≠ ph ∧ ph ≤ w ∧ pw ≤ h) → (t = true ∧ pw ≠ ph ∧ ph ≤ w + 1 ∧ pw ≤ h) := fun ⟨a, b, c, d⟩ => ⟨a, b, by omega, d⟩
  by_cases c1 : (pw ≤ w ∧ ph ≤ h)
  · rw [if_pos c1, if_pos (m1 c1)]
    by_cases c2 : (t = true ∧ pw ≠ ph ∧ ph ≤ w ∧ pw ≤ h)
    · rw [if_pos c2, if_pos (m2 c2)]; omega
    · rw [if_neg c2]; split <;> omega
  · rw [if_neg c1]
    by_cases c2 : (t = true ∧ pw ≠ ph ∧ ph ≤ w ∧ pw ≤ h)
    · rw [if_pos c2, if_pos (m2 c2)]; split <;> omega
    · rw [if_neg c2]; split <;> split <;> omega
set_option maxHeartbeats 3000000 in
theorem FnWaysIn_walk (v : Value) (w : World) (hv : BSl w v) : Calls Try.prog 4 #[v] w (Rt (.bool true) w) := by
  have hv' := hv
  obtain ⟨p, n, cap, rfl, _⟩ := hv'
  by_cases hn : 1048576 < n
  · have d1 : decide (1048576 < (n : Int)) = true := decide_eq_true (by omega)
    go_enter Try.func4, Try.ntmps4
    go_wp2
    go_ret
    exact ⟨rfl, Below.refl _ _⟩
  · have d1 : decide (1048576 < (n : Int)) = false := decide_eq_false (by omega)
    go_enter Try.func4, Try.ntmps4
    go_wp2_with fail
    go_at_call 14
    refine (DrawWaysIn_c hv).mono ?_
    rintro e w1 ⟨b, h, t, k, x, y, rfl, hb1⟩
    obtain ⟨hc1, hf1, -, hz1⟩ := bcell hb1
    (try simp at hz1)
    (try (have y1 : w.heap.size ≤ w1.heap.size := by omega))
    (try (have z1_0_0 : w.heap.size < w1.heap.size := by omega))
    (try (have z1_0_1 : w.heap.size + 1 < w1.heap.size := by omega))
    (try (have z1_0_2 : w.heap.size + 1 + 1 < w1.heap.size := by omega))
    (try (have z1_0_3 : w.heap.size + 1 + 1 + 1 < w1.heap.size := by omega))
    go_wp2_with fail
    have C1 := fun W => impl_WaysIn_c b h t k x y W
    have C2 := fun W => spec_WaysIn_c b h t k x y W
    by_cases hok : vPane b h k = true ∧ 0 ≤ x ∧ x ≤ 200 ∧ 0 ≤ y ∧ y ≤ 200
    · obtain ⟨hp, hr⟩ := hok
      have hp2 : vPane h b k = true := by have := vPane_bd hp; unfold vPane; exact decide_eq_true (by omega)
      have HI := waysI_yes (t := t) hp hr
      have HT : turnV b h t k = (.agg #[.int .i64 h, .int .i64 b, .bool t, .int .i64 k]) := by unfold turnV; rw [hp]
      have HJ : waysI h b t k y x = waysN b h t x y := by rw [waysI_yes hp2 (by omega), waysN_turn]
      have C3 := fun W => impl_TurnPane_c b h t k W
      have C4 := fun W => impl_WaysIn_c h b t k y x W
      have C5 := fun W => impl_WaysIn_c b h t k (x + 1) y W
      rw [HI] at C1 C2
      rw [HT] at C3
      rw [HJ] at C4
      have hbd := waysN_bd b h t x y
      have hup := waysN_up b h t x y
      have HK : x + 1 ≤ 200 → waysI b h t k (x + 1) y = waysN b h t (x + 1) y := fun hh => waysI_yes hp (by omega)
      obtain ⟨N, hN⟩ : ∃ N, N = waysN b h t x y := ⟨_, rfl⟩
      rw [← hN] at C1 C2 C4 hbd hup
      obtain ⟨b1, b2⟩ := hbd
      obtain ⟨r1, r2, r3, r4⟩ := hr
      have t1 : decide (N < 0) = false := decide_eq_false (by omega)
      have t2 : decide (N ≤ 2) = true := decide_eq_true (by omega)
      clear HI HT HJ hN hp hp2
      by_cases hx : x = 200
      · have t3 : (x == 200) = true := by simpa using hx
        clear HK hx
        go_at_call 15
        refine (C1 _).mono ?_
        rintro e w2 ⟨rfl, hb2⟩
        obtain ⟨hc2, hf2, -, hz2⟩ := bcell hb2
        (try simp at hz2)
        (try (have y2 : w.heap.size ≤ w2.heap.size := by omega))
        (try (have z2_0_0 : w.heap.size < w2.heap.size := by omega))
        (try (have z2_0_1 : w.heap.size + 1 < w2.heap.size := by omega))
        (try (have z2_0_2 : w.heap.size + 1 + 1 < w2.heap.size := by omega))
        (try (have z2_0_3 : w.heap.size + 1 + 1 + 1 < w2.heap.size := by omega))
        (try (have z2_1_0 : w1.heap.size < w2.heap.size := by omega))
        (try (have z2_1_1 : w1.heap.size + 1 < w2.heap.size := by omega))
        go_wp2_with fail
        go_at_call 16
        refine (C2 _).mono ?_
        rintro e w3 ⟨rfl, hb3⟩
        obtain ⟨hc3, hf3, -, hz3⟩ := bcell hb3
        (try simp at hz3)
        (try (have y3 : w.heap.size ≤ w3.heap.size := by omega))
        (try (have z3_0_0 : w.heap.size < w3.heap.size := by omega))
        (try (have z3_0_1 : w.heap.size + 1 < w3.heap.size := by omega))
        (try (have z3_0_2 : w.heap.size + 1 + 1 < w3.heap.size := by omega))
        (try (have z3_0_3 : w.heap.size + 1 + 1 + 1 < w3.heap.size := by omega))
        (try (have z3_1_0 : w1.heap.size < w3.heap.size := by omega))
        (try (have z3_1_1 : w1.heap.size + 1 < w3.heap.size := by omega))
        (try (have z3_2_0 : w2.heap.size < w3.heap.size := by omega))
        (try (have z3_2_1 : w2.heap.size + 1 < w3.heap.size := by omega))
        go_wp2_with fail
        go_at_call 17
        refine (C3 _).mono ?_
        rintro e w4 ⟨rfl, hb4⟩
        obtain ⟨hc4, hf4, -, hz4⟩ := bcell hb4
        (try simp at hz4)
        (try (have y4 : w.heap.size ≤ w4.heap.size := by omega))
        (try (have z4_0_0 : w.heap.size < w4.heap.size := by omega))
        (try (have z4_0_1 : w.heap.size + 1 < w4.heap.size := by omega))
        (try (have z4_0_2 : w.heap.size + 1 + 1 < w4.heap.size := by omega))
        (try (have z4_0_3 : w.heap.size + 1 + 1 + 1 < w4.heap.size := by omega))
        (try (have z4_1_0 : w1.heap.size < w4.heap.size := by omega))
        (try (have z4_1_1 : w1.heap.size + 1 < w4.heap.size := by omega))
        (try (have z4_2_0 : w2.heap.size < w4.heap.size := by omega))
        (try (have z4_2_1 : w2.heap.size + 1 < w4.heap.size := by omega))
        (try (have z4_3_0 : w3.heap.size < w4.heap.size := by omega))
        (try (have z4_3_1 : w3.heap.size + 1 < w4.heap.size := by omega))
        go_wp2_with fail
        go_at_call 15
        refine (C4 _).mono ?_
        rintro e w5 ⟨rfl, hb5⟩
        obtain ⟨hc5, hf5, -, hz5⟩ := bcell hb5
        (try simp at hz5)
        (try (have y5 : w.heap.size ≤ w5.heap.size := by omega))
        (try (have z5_0_0 : w.heap.size < w5.heap.size := by omega))
        (try (have z5_0_1 : w.heap.size + 1 < w5.heap.size := by omega))
        (try (have z5_0_2 : w.heap.size + 1 + 1 < w5.heap.size := by omega))
        (try (have z5_0_3 : w.heap.size + 1 + 1 + 1 < w5.heap.size := by omega))
        (try (have z5_1_0 : w1.heap.size < w5.heap.size := by omega))
        (try (have z5_1_1 : w1.heap.size + 1 < w5.heap.size := by omega))
        (try (have z5_2_0 : w2.heap.size < w5.heap.size := by omega))
        (try (have z5_2_1 : w2.heap.size + 1 < w5.heap.size := by omega))
        (try (have z5_3_0 : w3.heap.size < w5.heap.size := by omega))
        (try (have z5_3_1 : w3.heap.size + 1 < w5.heap.size := by omega))
        (try (have z5_4_0 : w4.heap.size < w5.heap.size := by omega))
        (try (have z5_4_1 : w4.heap.size + 1 < w5.heap.size := by omega))
        go_wp2_with fail
        go_ret
        exact ⟨rfl, (by repeat' (first | with_reducible exact Below.refl _ _ | with_reducible refine Below.alloc ?_ (by first | omega | (simp; done) | (simp; omega)) _ | with_reducible refine Below.drew ?_ | with_reducible refine below_drewN ?_ _ | with_reducible refine Below.setCell ?_ (by first | omega | (simp; done) | (simp; omega)) _ | with_reducible refine Below.grown ?_ (by assumption) (by first | omega | (simp; done) | (simp; omega)) (by intro k hk; cases hk; omega) | with_reducible refine Below.trans ?_ (Below.mono (by assumption) (by first | omega | (simp; done) | (simp; omega)))))⟩
      · have t3 : (x == 200) = false := by simpa using hx
        rw [HK (by omega)] at C5
        obtain ⟨N2, hN2⟩ : ∃ N2, N2 = waysN b h t (x + 1) y := ⟨_, rfl⟩
        rw [← hN2] at C5 hup
        have t4 : decide (N ≤ N2) = true := decide_eq_true hup
        have hx2 : x ≤ 199 := by omega
        clear HK hN2
        go_at_call 15
        refine (C1 _).mono ?_
        rintro e w2 ⟨rfl, hb2⟩
        obtain ⟨hc2, hf2, -, hz2⟩ := bcell hb2
        (try simp at hz2)
        (try (have y2 : w.heap.size ≤ w2.heap.size := by omega))
        (try (have z2_0_0 : w.heap.size < w2.heap.size := by omega))
        (try (have z2_0_1 : w.heap.size + 1 < w2.heap.size := by omega))
        (try (have z2_0_2 : w.heap.size + 1 + 1 < w2.heap.size := by omega))
        (try (have z2_0_3 : w.heap.size + 1 + 1 + 1 < w2.heap.size := by omega))
        (try (have z2_1_0 : w1.heap.size < w2.heap.size := by omega))
        (try (have z2_1_1 : w1.heap.size + 1 < w2.heap.size := by omega))
        go_wp2_with fail
        go_at_call 16
        refine (C2 _).mono ?_
        rintro e w3 ⟨rfl, hb3⟩
        obtain ⟨hc3, hf3, -, hz3⟩ := bcell hb3
        (try simp at hz3)
        (try (have y3 : w.heap.size ≤ w3.heap.size := by omega))
        (try (have z3_0_0 : w.heap.size < w3.heap.size := by omega))
        (try (have z3_0_1 : w.heap.size + 1 < w3.heap.size := by omega))
        (try (have z3_0_2 : w.heap.size + 1 + 1 < w3.heap.size := by omega))
        (try (have z3_0_3 : w.heap.size + 1 + 1 + 1 < w3.heap.size := by omega))
        (try (have z3_1_0 : w1.heap.size < w3.heap.size := by omega))
        (try (have z3_1_1 : w1.heap.size + 1 < w3.heap.size := by omega))
        (try (have z3_2_0 : w2.heap.size < w3.heap.size := by omega))
        (try (have z3_2_1 : w2.heap.size + 1 < w3.heap.size := by omega))
        go_wp2_with fail
        go_at_call 17
        refine (C3 _).mono ?_
        rintro e w4 ⟨rfl, hb4⟩
        obtain ⟨hc4, hf4, -, hz4⟩ := bcell hb4
        (try simp at hz4)
        (try (have y4 : w.heap.size ≤ w4.heap.size := by omega))
        (try (have z4_0_0 : w.heap.size < w4.heap.size := by omega))
        (try (have z4_0_1 : w.heap.size + 1 < w4.heap.size := by omega))
        (try (have z4_0_2 : w.heap.size + 1 + 1 < w4.heap.size := by omega))
        (try (have z4_0_3 : w.heap.size + 1 + 1 + 1 < w4.heap.size := by omega))
        (try (have z4_1_0 : w1.heap.size < w4.heap.size := by omega))
        (try (have z4_1_1 : w1.heap.size + 1 < w4.heap.size := by omega))
        (try (have z4_2_0 : w2.heap.size < w4.heap.size := by omega))
        (try (have z4_2_1 : w2.heap.size + 1 < w4.heap.size := by omega))
        (try (have z4_3_0 : w3.heap.size < w4.heap.size := by omega))
        (try (have z4_3_1 : w3.heap.size + 1 < w4.heap.size := by omega))
        go_wp2_with fail
        go_at_call 15
        refine (C4 _).mono ?_
        rintro e w5 ⟨rfl, hb5⟩
        obtain ⟨hc5, hf5, -, hz5⟩ := bcell hb5
        (try simp at hz5)
        (try (have y5 : w.heap.size ≤ w5.heap.size := by omega))
        (try (have z5_0_0 : w.heap.size < w5.heap.size := by omega))
        (try (have z5_0_1 : w.heap.size + 1 < w5.heap.size := by omega))
        (try (have z5_0_2 : w.heap.size + 1 + 1 < w5.heap.size := by omega))
        (try (have z5_0_3 : w.heap.size + 1 + 1 + 1 < w5.heap.size := by omega))
        (try (have z5_1_0 : w1.heap.size < w5.heap.size := by omega))
        (try (have z5_1_1 : w1.heap.size + 1 < w5.heap.size := by omega))
        (try (have z5_2_0 : w2.heap.size < w5.heap.size := by omega))
        (try (have z5_2_1 : w2.heap.size + 1 < w5.heap.size := by omega))
        (try (have z5_3_0 : w3.heap.size < w5.heap.size := by omega))
        (try (have z5_3_1 : w3.heap.size + 1 < w5.heap.size := by omega))
        (try (have z5_4_0 : w4.heap.size < w5.heap.size := by omega))
        (try (have z5_4_1 : w4.heap.size + 1 < w5.heap.size := by omega))
        go_wp2_with fail
        go_at_call 15
        refine (C5 _).mono ?_
        rintro e w6 ⟨rfl, hb6⟩
        obtain ⟨hc6, hf6, -, hz6⟩ := bcell hb6
        (try simp at hz6)
        (try (have y6 : w.heap.size ≤ w6.heap.size := by omega))
        (try (have z6_0_0 : w.heap.size < w6.heap.size := by omega))
        (try (have z6_0_1 : w.heap.size + 1 < w6.heap.size := by omega))
        (try (have z6_0_2 : w.heap.size + 1 + 1 < w6.heap.size := by omega))
        (try (have z6_0_3 : w.heap.size + 1 + 1 + 1 < w6.heap.size := by omega))
        (try (have z6_1_0 : w1.heap.size < w6.heap.size := by omega))
        (try (have z6_1_1 : w1.heap.size + 1 < w6.heap.size := by omega))
        (try (have z6_2_0 : w2.heap.size < w6.heap.size := by omega))
        (try (have z6_2_1 : w2.heap.size + 1 < w6.heap.size := by omega))
        (try (have z6_3_0 : w3.heap.size < w6.heap.size := by omega))
        (try (have z6_3_1 : w3.heap.size + 1 < w6.heap.size := by omega))
        (try (have z6_4_0 : w4.heap.size < w6.heap.size := by omega))
        (try (have z6_4_1 : w4.heap.size + 1 < w6.heap.size := by omega))
        (try (have z6_5_0 : w5.heap.size < w6.heap.size := by omega))
        (try (have z6_5_1 : w5.heap.size + 1 < w6.heap.size := by omega))
        go_wp2_with fail
        go_ret
        exact ⟨rfl, (by repeat' (first | with_reducible exact Below.refl _ _ | with_reducible refine Below.alloc ?_ (by first | omega | (simp; done) | (simp; omega)) _ | with_reducible refine Below.drew ?_ | with_reducible refine below_drewN ?_ _ | with_reducible refine Below.setCell ?_ (by first | omega | (simp; done) | (simp; omega)) _ | with_reducible refine Below.grown ?_ (by assumption) (by first | omega | (simp; done) | (simp; omega)) (by intro k hk; cases hk; omega) | with_reducible refine Below.trans ?_ (Below.mono (by assumption) (by first | omega | (simp; done) | (simp; omega)))))⟩
    · have HI : waysI b h t k x y = -1 := by
        apply waysI_no
        cases hp : vPane b h k
        · exact .inl rfl
        · refine .inr ?_
          have : ¬ (0 ≤ x ∧ x ≤ 200 ∧ 0 ≤ y ∧ y ≤ 200) := fun hh => hok ⟨hp, hh⟩
          omega
      rw [HI] at C1 C2
      clear HI hok
      go_at_call 15
      refine (C1 _).mono ?_
      rintro e w2 ⟨rfl, hb2⟩
      obtain ⟨hc2, hf2, -, hz2⟩ := bcell hb2
      (try simp at hz2)
      (try (have y2 : w.heap.size ≤ w2.heap.size := by omega))
      (try (have z2_0_0 : w.heap.size < w2.heap.size := by omega))
      (try (have z2_0_1 : w.heap.size + 1 < w2.heap.size := by omega))
      (try (have z2_0_2 : w.heap.size + 1 + 1 < w2.heap.size := by omega))
      (try (have z2_0_3 : w.heap.size + 1 + 1 + 1 < w2.heap.size := by omega))
      (try (have z2_1_0 : w1.heap.size < w2.heap.size := by omega))
      (try (have z2_1_1 : w1.heap.size + 1 < w2.heap.size := by omega))
      go_wp2_with fail
      go_at_call 16
      refine (C2 _).mono ?_
      rintro e w3 ⟨rfl, hb3⟩
      obtain ⟨hc3, hf3, -, hz3⟩ := bcell hb3
      (try simp at hz3)
      (try (have y3 : w.heap.size ≤ w3.heap.size := by omega))
      (try (have z3_0_0 : w.heap.size < w3.heap.size := by omega))
      (try (have z3_0_1 : w.heap.size + 1 < w3.heap.size := by omega))
      (try (have z3_0_2 : w.heap.size + 1 + 1 < w3.heap.size := by omega))
      (try (have z3_0_3 : w.heap.size + 1 + 1 + 1 < w3.heap.size := by omega))
      (try (have z3_1_0 : w1.heap.size < w3.heap.size := by omega))
      (try (have z3_1_1 : w1.heap.size + 1 < w3.heap.size := by omega))
      (try (have z3_2_0 : w2.heap.size < w3.heap.size := by omega))
      (try (have z3_2_1 : w2.heap.size + 1 < w3.heap.size := by omega))
      go_wp2_with fail
      go_at_call 16
      refine (C2 _).mono ?_
      rintro e w4 ⟨rfl, hb4⟩
      obtain ⟨hc4, hf4, -, hz4⟩ := bcell hb4
      (try simp at hz4)
      (try (have y4 : w.heap.size ≤ w4.heap.size := by omega))
      (try (have z4_0_0 : w.heap.size < w4.heap.size := by omega))
      (try (have z4_0_1 : w.heap.size + 1 < w4.heap.size := by omega))
      (try (have z4_0_2 : w.heap.size + 1 + 1 < w4.heap.size := by omega))
      (try (have z4_0_3 : w.heap.size + 1 + 1 + 1 < w4.heap.size := by omega))
      (try (have z4_1_0 : w1.heap.size < w4.heap.size := by omega))
      (try (have z4_1_1 : w1.heap.size + 1 < w4.heap.size := by omega))
      (try (have z4_2_0 : w2.heap.size < w4.heap.size := by omega))
      (try (have z4_2_1 : w2.heap.size + 1 < w4.heap.size := by omega))
      (try (have z4_3_0 : w3.heap.size < w4.heap.size := by omega))
      (try (have z4_3_1 : w3.heap.size + 1 < w4.heap.size := by omega))
      go_wp2_with fail
      go_ret
      exact ⟨rfl, (by repeat' (first | with_reducible exact Below.refl _ _ | with_reducible refine Below.alloc ?_ (by first | omega | (simp; done) | (simp; omega)) _ | with_reducible refine Below.drew ?_ | with_reducible refine below_drewN ?_ _ | with_reducible refine Below.setCell ?_ (by first | omega | (simp; done) | (simp; omega)) _ | with_reducible refine Below.grown ?_ (by assumption) (by first | omega | (simp; done) | (simp; omega)) (by intro k hk; cases hk; omega) | with_reducible refine Below.trans ?_ (Below.mono (by assumption) (by first | omega | (simp; done) | (simp; omega)))))⟩
end Go.Proofs.Ytimfabpigpcjhaa
