/- The walk of the law FnInsideOf; no statement is proved here. -/
import Derived.Test.YthaaclgonfekpaaDraw
import Derived.Test.YthaaclgonfekpaaMeet
import Derived.Test.YthaaclgonfekpaaIns
import Derived.Test.YthaaclgonfekpaaLawsB0
namespace Go.Proofs.Ythaaclgonfekpaa
open Go.ChangeShapes Go.WideShapes Go.ChangeAt Go.RowKit
set_option linter.unusedVariables false
set_option linter.unusedSimpArgs false

set_option maxHeartbeats 1600000 in
theorem FnInsideOf_walk (v : Value) (w : World) (hv : BSl w v) : Calls Try.prog 8 #[v] w (Rt (.bool true) w) := by
  have hv' := hv
  obtain ⟨p, n, cap, rfl, _⟩ := hv'
  by_cases hn : 1048576 < n
  · have d1 : decide (1048576 < (n : Int)) = true := decide_eq_true (by omega)
    go_enter Try.func8, Try.ntmps8
    go_wp2
    go_ret
    exact ⟨rfl, Below.refl _ _⟩
  · have d1 : decide (1048576 < (n : Int)) = false := decide_eq_false (by omega)
    go_enter Try.func8, Try.ntmps8
    go_wp2_with fail
    go_at_call 29
    refine (DrawInsideOf_c hv).mono ?_
    rintro e w1 ⟨ax, ay, aw, ah, bx, by', bw, bh, rfl, hb1⟩
    obtain ⟨hc1, hf1, -, hz1⟩ := bcell hb1
    (try simp at hz1)
    (try (have y1 : w.heap.size ≤ w1.heap.size := by omega))
    (try (have z1_0_0 : w.heap.size < w1.heap.size := by omega))
    (try (have z1_0_1 : w.heap.size + 1 < w1.heap.size := by omega))
    (try (have z1_0_2 : w.heap.size + 1 + 1 < w1.heap.size := by omega))
    (try (have z1_0_3 : w.heap.size + 1 + 1 + 1 < w1.heap.size := by omega))
    go_wp2_with fail
    have C1 := fun W => impl_InsideOf_c ax ay aw ah bx by' bw bh W
    have C2 := fun W => spec_InsideOf_c ax ay aw ah bx by' bw bh W
    have C3 := fun W => impl_ValidBox_c ax ay aw ah W
    have C4 := fun W => impl_ValidBox_c bx by' bw bh W
    cases ha : vBox ax ay aw ah
    · have I1 : insB ax ay aw ah bx by' bw bh = false := by unfold insB; rw [ha]; rfl
      rw [I1] at C1 C2
      rw [ha] at C3
      clear I1
      go_at_call 30
      refine (C1 _).mono ?_
      rintro e w2 ⟨rfl, hb2⟩
      obtain ⟨hc2, hf2, -, hz2⟩ := bcell hb2
      (try simp at hz2)
      (try (have y2 : w.heap.size ≤ w2.heap.size := by omega))
      (try (have z2_0_0 : w.heap.size < w2.heap.size := by omega))
      (try (have z2_0_1 : w.heap.size + 1 < w2.heap.size := by omega))
      (try (have z2_0_2 : w.heap.size + 1 + 1 < w2.heap.size := by omega))
      (try (have z2_0_3 : w.heap.size + 1 + 1 + 1 < w2.heap.size := by omega))
      (try (have z2_1_0 : w1.heap.size < w2.heap.size := by omega))
      (try (have z2_1_1 : w1.heap.size + 1 < w2.heap.size := by omega))
      go_wp2_with fail
      go_at_call 31
      refine (C2 _).mono ?_
      rintro e w3 ⟨rfl, hb3⟩
      obtain ⟨hc3, hf3, -, hz3⟩ := bcell hb3
      (try simp at hz3)
      (try (have y3 : w.heap.size ≤ w3.heap.size := by omega))
      (try (have z3_0_0 : w.heap.size < w3.heap.size := by omega))
      (try (have z3_0_1 : w.heap.size + 1 < w3.heap.size := by omega))
      (try (have z3_0_2 : w.heap.size + 1 + 1 < w3.heap.size := by omega))
      (try (have z3_0_3 : w.heap.size + 1 + 1 + 1 < w3.heap.size := by omega))
      (try (have z3_1_0 : w1.heap.size < w3.heap.size := by omega))
      (try (have z3_1_1 : w1.heap.size + 1 < w3.heap.size := by omega))
      (try (have z3_2_0 : w2.heap.size < w3.heap.size := by omega))
      (try (have z3_2_1 : w2.heap.size + 1 < w3.heap.size := by omega))
      go_wp2_with fail
      go_at_call 20
      refine (C3 _).mono ?_
      rintro e w4 ⟨rfl, hb4⟩
      obtain ⟨hc4, hf4, -, hz4⟩ := bcell hb4
      (try simp at hz4)
      (try (have y4 : w.heap.size ≤ w4.heap.size := by omega))
      (try (have z4_0_0 : w.heap.size < w4.heap.size := by omega))
      (try (have z4_0_1 : w.heap.size + 1 < w4.heap.size := by omega))
      (try (have z4_0_2 : w.heap.size + 1 + 1 < w4.heap.size := by omega))
      (try (have z4_0_3 : w.heap.size + 1 + 1 + 1 < w4.heap.size := by omega))
      (try (have z4_1_0 : w1.heap.size < w4.heap.size := by omega))
      (try (have z4_1_1 : w1.heap.size + 1 < w4.heap.size := by omega))
      (try (have z4_2_0 : w2.heap.size < w4.heap.size := by omega))
      (try (have z4_2_1 : w2.heap.size + 1 < w4.heap.size := by omega))
      (try (have z4_3_0 : w3.heap.size < w4.heap.size := by omega))
      (try (have z4_3_1 : w3.heap.size + 1 < w4.heap.size := by omega))
      go_wp2_with fail
      go_at_call 31
      refine (C2 _).mono ?_
      rintro e w5 ⟨rfl, hb5⟩
      obtain ⟨hc5, hf5, -, hz5⟩ := bcell hb5
      (try simp at hz5)
      (try (have y5 : w.heap.size ≤ w5.heap.size := by omega))
      (try (have z5_0_0 : w.heap.size < w5.heap.size := by omega))
      (try (have z5_0_1 : w.heap.size + 1 < w5.heap.size := by omega))
      (try (have z5_0_2 : w.heap.size + 1 + 1 < w5.heap.size := by omega))
      (try (have z5_0_3 : w.heap.size + 1 + 1 + 1 < w5.heap.size := by omega))
      (try (have z5_1_0 : w1.heap.size < w5.heap.size := by omega))
      (try (have z5_1_1 : w1.heap.size + 1 < w5.heap.size := by omega))
      (try (have z5_2_0 : w2.heap.size < w5.heap.size := by omega))
      (try (have z5_2_1 : w2.heap.size + 1 < w5.heap.size := by omega))
      (try (have z5_3_0 : w3.heap.size < w5.heap.size := by omega))
      (try (have z5_3_1 : w3.heap.size + 1 < w5.heap.size := by omega))
      (try (have z5_4_0 : w4.heap.size < w5.heap.size := by omega))
      (try (have z5_4_1 : w4.heap.size + 1 < w5.heap.size := by omega))
      go_wp2_with fail
      go_ret
      exact ⟨rfl, (by repeat' (first | with_reducible exact Below.refl _ _ | with_reducible refine Below.alloc ?_ (by first | omega | (simp; done) | (simp; omega)) _ | with_reducible refine Below.drew ?_ | with_reducible refine below_drewN ?_ _ | with_reducible refine Below.setCell ?_ (by first | omega | (simp; done) | (simp; omega)) _ | with_reducible refine Below.grown ?_ (by assumption) (by first | omega | (simp; done) | (simp; omega)) (by intro k hk; cases hk; omega) | with_reducible refine Below.trans ?_ (Below.mono (by assumption) (by first | omega | (simp; done) | (simp; omega)))))⟩
    · rw [ha] at C3
      cases hb : vBox bx by' bw bh
      · have I1 : insB ax ay aw ah bx by' bw bh = false := by unfold insB; rw [ha, hb]; rfl
        rw [I1] at C1 C2
        rw [hb] at C4
        clear I1
        go_at_call 30
        refine (C1 _).mono ?_
        rintro e w2 ⟨rfl, hb2⟩
        obtain ⟨hc2, hf2, -, hz2⟩ := bcell hb2
        (try simp at hz2)
        (try (have y2 : w.heap.size ≤ w2.heap.size := by omega))
        (try (have z2_0_0 : w.heap.size < w2.heap.size := by omega))
        (try (have z2_0_1 : w.heap.size + 1 < w2.heap.size := by omega))
        (try (have z2_0_2 : w.heap.size + 1 + 1 < w2.heap.size := by omega))
        (try (have z2_0_3 : w.heap.size + 1 + 1 + 1 < w2.heap.size := by omega))
        (try (have z2_1_0 : w1.heap.size < w2.heap.size := by omega))
        (try (have z2_1_1 : w1.heap.size + 1 < w2.heap.size := by omega))
        go_wp2_with fail
        go_at_call 31
        refine (C2 _).mono ?_
        rintro e w3 ⟨rfl, hb3⟩
        obtain ⟨hc3, hf3, -, hz3⟩ := bcell hb3
        (try simp at hz3)
        (try (have y3 : w.heap.size ≤ w3.heap.size := by omega))
        (try (have z3_0_0 : w.heap.size < w3.heap.size := by omega))
        (try (have z3_0_1 : w.heap.size + 1 < w3.heap.size := by omega))
        (try (have z3_0_2 : w.heap.size + 1 + 1 < w3.heap.size := by omega))
        (try (have z3_0_3 : w.heap.size + 1 + 1 + 1 < w3.heap.size := by omega))
        (try (have z3_1_0 : w1.heap.size < w3.heap.size := by omega))
        (try (have z3_1_1 : w1.heap.size + 1 < w3.heap.size := by omega))
        (try (have z3_2_0 : w2.heap.size < w3.heap.size := by omega))
        (try (have z3_2_1 : w2.heap.size + 1 < w3.heap.size := by omega))
        go_wp2_with fail
        go_at_call 20
        refine (C3 _).mono ?_
        rintro e w4 ⟨rfl, hb4⟩
        obtain ⟨hc4, hf4, -, hz4⟩ := bcell hb4
        (try simp at hz4)
        (try (have y4 : w.heap.size ≤ w4.heap.size := by omega))
        (try (have z4_0_0 : w.heap.size < w4.heap.size := by omega))
        (try (have z4_0_1 : w.heap.size + 1 < w4.heap.size := by omega))
        (try (have z4_0_2 : w.heap.size + 1 + 1 < w4.heap.size := by omega))
        (try (have z4_0_3 : w.heap.size + 1 + 1 + 1 < w4.heap.size := by omega))
        (try (have z4_1_0 : w1.heap.size < w4.heap.size := by omega))
        (try (have z4_1_1 : w1.heap.size + 1 < w4.heap.size := by omega))
        (try (have z4_2_0 : w2.heap.size < w4.heap.size := by omega))
        (try (have z4_2_1 : w2.heap.size + 1 < w4.heap.size := by omega))
        (try (have z4_3_0 : w3.heap.size < w4.heap.size := by omega))
        (try (have z4_3_1 : w3.heap.size + 1 < w4.heap.size := by omega))
        go_wp2_with fail
        go_at_call 20
        refine (C4 _).mono ?_
        rintro e w5 ⟨rfl, hb5⟩
        obtain ⟨hc5, hf5, -, hz5⟩ := bcell hb5
        (try simp at hz5)
        (try (have y5 : w.heap.size ≤ w5.heap.size := by omega))
        (try (have z5_0_0 : w.heap.size < w5.heap.size := by omega))
        (try (have z5_0_1 : w.heap.size + 1 < w5.heap.size := by omega))
        (try (have z5_0_2 : w.heap.size + 1 + 1 < w5.heap.size := by omega))
        (try (have z5_0_3 : w.heap.size + 1 + 1 + 1 < w5.heap.size := by omega))
        (try (have z5_1_0 : w1.heap.size < w5.heap.size := by omega))
        (try (have z5_1_1 : w1.heap.size + 1 < w5.heap.size := by omega))
        (try (have z5_2_0 : w2.heap.size < w5.heap.size := by omega))
        (try (have z5_2_1 : w2.heap.size + 1 < w5.heap.size := by omega))
        (try (have z5_3_0 : w3.heap.size < w5.heap.size := by omega))
        (try (have z5_3_1 : w3.heap.size + 1 < w5.heap.size := by omega))
        (try (have z5_4_0 : w4.heap.size < w5.heap.size := by omega))
        (try (have z5_4_1 : w4.heap.size + 1 < w5.heap.size := by omega))
        go_wp2_with fail
        go_at_call 31
        refine (C2 _).mono ?_
        rintro e w6 ⟨rfl, hb6⟩
        obtain ⟨hc6, hf6, -, hz6⟩ := bcell hb6
        (try simp at hz6)
        (try (have y6 : w.heap.size ≤ w6.heap.size := by omega))
        (try (have z6_0_0 : w.heap.size < w6.heap.size := by omega))
        (try (have z6_0_1 : w.heap.size + 1 < w6.heap.size := by omega))
        (try (have z6_0_2 : w.heap.size + 1 + 1 < w6.heap.size := by omega))
        (try (have z6_0_3 : w.heap.size + 1 + 1 + 1 < w6.heap.size := by omega))
        (try (have z6_1_0 : w1.heap.size < w6.heap.size := by omega))
        (try (have z6_1_1 : w1.heap.size + 1 < w6.heap.size := by omega))
        (try (have z6_2_0 : w2.heap.size < w6.heap.size := by omega))
        (try (have z6_2_1 : w2.heap.size + 1 < w6.heap.size := by omega))
        (try (have z6_3_0 : w3.heap.size < w6.heap.size := by omega))
        (try (have z6_3_1 : w3.heap.size + 1 < w6.heap.size := by omega))
        (try (have z6_4_0 : w4.heap.size < w6.heap.size := by omega))
        (try (have z6_4_1 : w4.heap.size + 1 < w6.heap.size := by omega))
        (try (have z6_5_0 : w5.heap.size < w6.heap.size := by omega))
        (try (have z6_5_1 : w5.heap.size + 1 < w6.heap.size := by omega))
        go_wp2_with fail
        go_ret
        exact ⟨rfl, (by repeat' (first | with_reducible exact Below.refl _ _ | with_reducible refine Below.alloc ?_ (by first | omega | (simp; done) | (simp; omega)) _ | with_reducible refine Below.drew ?_ | with_reducible refine below_drewN ?_ _ | with_reducible refine Below.setCell ?_ (by first | omega | (simp; done) | (simp; omega)) _ | with_reducible refine Below.grown ?_ (by assumption) (by first | omega | (simp; done) | (simp; omega)) (by intro k hk; cases hk; omega) | with_reducible refine Below.trans ?_ (Below.mono (by assumption) (by first | omega | (simp; done) | (simp; omega)))))⟩
      · rw [hb] at C4
        have I1 := insB_meets ha hb
        have C5 := fun W => impl_MeetOf_c ax ay aw ah bx by' bw bh W
        cases hm : meets ax ay aw ah bx by' bw bh
        · rw [hm, Bool.false_and] at I1
          rw [I1] at C1 C2
          rw [meetVal_no (by rw [hm]; simp)] at C5
          clear I1
          go_at_call 30
          refine (C1 _).mono ?_
          rintro e w2 ⟨rfl, hb2⟩
          obtain ⟨hc2, hf2, -, hz2⟩ := bcell hb2
          (try simp at hz2)
          (try (have y2 : w.heap.size ≤ w2.heap.size := by omega))
          (try (have z2_0_0 : w.heap.size < w2.heap.size := by omega))
          (try (have z2_0_1 : w.heap.size + 1 < w2.heap.size := by omega))
          (try (have z2_0_2 : w.heap.size + 1 + 1 < w2.heap.size := by omega))
          (try (have z2_0_3 : w.heap.size + 1 + 1 + 1 < w2.heap.size := by omega))
          (try (have z2_1_0 : w1.heap.size < w2.heap.size := by omega))
          (try (have z2_1_1 : w1.heap.size + 1 < w2.heap.size := by omega))
          go_wp2_with fail
          go_at_call 31
          refine (C2 _).mono ?_
          rintro e w3 ⟨rfl, hb3⟩
          obtain ⟨hc3, hf3, -, hz3⟩ := bcell hb3
          (try simp at hz3)
          (try (have y3 : w.heap.size ≤ w3.heap.size := by omega))
          (try (have z3_0_0 : w.heap.size < w3.heap.size := by omega))
          (try (have z3_0_1 : w.heap.size + 1 < w3.heap.size := by omega))
          (try (have z3_0_2 : w.heap.size + 1 + 1 < w3.heap.size := by omega))
          (try (have z3_0_3 : w.heap.size + 1 + 1 + 1 < w3.heap.size := by omega))
          (try (have z3_1_0 : w1.heap.size < w3.heap.size := by omega))
          (try (have z3_1_1 : w1.heap.size + 1 < w3.heap.size := by omega))
          (try (have z3_2_0 : w2.heap.size < w3.heap.size := by omega))
          (try (have z3_2_1 : w2.heap.size + 1 < w3.heap.size := by omega))
          go_wp2_with fail
          go_at_call 20
          refine (C3 _).mono ?_
          rintro e w4 ⟨rfl, hb4⟩
          obtain ⟨hc4, hf4, -, hz4⟩ := bcell hb4
          (try simp at hz4)
          (try (have y4 : w.heap.size ≤ w4.heap.size := by omega))
          (try (have z4_0_0 : w.heap.size < w4.heap.size := by omega))
          (try (have z4_0_1 : w.heap.size + 1 < w4.heap.size := by omega))
          (try (have z4_0_2 : w.heap.size + 1 + 1 < w4.heap.size := by omega))
          (try (have z4_0_3 : w.heap.size + 1 + 1 + 1 < w4.heap.size := by omega))
          (try (have z4_1_0 : w1.heap.size < w4.heap.size := by omega))
          (try (have z4_1_1 : w1.heap.size + 1 < w4.heap.size := by omega))
          (try (have z4_2_0 : w2.heap.size < w4.heap.size := by omega))
          (try (have z4_2_1 : w2.heap.size + 1 < w4.heap.size := by omega))
          (try (have z4_3_0 : w3.heap.size < w4.heap.size := by omega))
          (try (have z4_3_1 : w3.heap.size + 1 < w4.heap.size := by omega))
          go_wp2_with fail
          go_at_call 20
          refine (C4 _).mono ?_
          rintro e w5 ⟨rfl, hb5⟩
          obtain ⟨hc5, hf5, -, hz5⟩ := bcell hb5
          (try simp at hz5)
          (try (have y5 : w.heap.size ≤ w5.heap.size := by omega))
          (try (have z5_0_0 : w.heap.size < w5.heap.size := by omega))
          (try (have z5_0_1 : w.heap.size + 1 < w5.heap.size := by omega))
          (try (have z5_0_2 : w.heap.size + 1 + 1 < w5.heap.size := by omega))
          (try (have z5_0_3 : w.heap.size + 1 + 1 + 1 < w5.heap.size := by omega))
          (try (have z5_1_0 : w1.heap.size < w5.heap.size := by omega))
          (try (have z5_1_1 : w1.heap.size + 1 < w5.heap.size := by omega))
          (try (have z5_2_0 : w2.heap.size < w5.heap.size := by omega))
          (try (have z5_2_1 : w2.heap.size + 1 < w5.heap.size := by omega))
          (try (have z5_3_0 : w3.heap.size < w5.heap.size := by omega))
          (try (have z5_3_1 : w3.heap.size + 1 < w5.heap.size := by omega))
          (try (have z5_4_0 : w4.heap.size < w5.heap.size := by omega))
          (try (have z5_4_1 : w4.heap.size + 1 < w5.heap.size := by omega))
          go_wp2_with fail
          go_at_call 24
          refine (C5 _).mono ?_
          rintro e w6 ⟨rfl, hb6⟩
          obtain ⟨hc6, hf6, -, hz6⟩ := bcell hb6
          (try simp at hz6)
          (try (have y6 : w.heap.size ≤ w6.heap.size := by omega))
          (try (have z6_0_0 : w.heap.size < w6.heap.size := by omega))
          (try (have z6_0_1 : w.heap.size + 1 < w6.heap.size := by omega))
          (try (have z6_0_2 : w.heap.size + 1 + 1 < w6.heap.size := by omega))
          (try (have z6_0_3 : w.heap.size + 1 + 1 + 1 < w6.heap.size := by omega))
          (try (have z6_1_0 : w1.heap.size < w6.heap.size := by omega))
          (try (have z6_1_1 : w1.heap.size + 1 < w6.heap.size := by omega))
          (try (have z6_2_0 : w2.heap.size < w6.heap.size := by omega))
          (try (have z6_2_1 : w2.heap.size + 1 < w6.heap.size := by omega))
          (try (have z6_3_0 : w3.heap.size < w6.heap.size := by omega))
          (try (have z6_3_1 : w3.heap.size + 1 < w6.heap.size := by omega))
          (try (have z6_4_0 : w4.heap.size < w6.heap.size := by omega))
          (try (have z6_4_1 : w4.heap.size + 1 < w6.heap.size := by omega))
          (try (have z6_5_0 : w5.heap.size < w6.heap.size := by omega))
          (try (have z6_5_1 : w5.heap.size + 1 < w6.heap.size := by omega))
          go_wp2_with fail
          go_ret
          exact ⟨rfl, (by repeat' (first | with_reducible exact Below.refl _ _ | with_reducible refine Below.alloc ?_ (by first | omega | (simp; done) | (simp; omega)) _ | with_reducible refine Below.drew ?_ | with_reducible refine below_drewN ?_ _ | with_reducible refine Below.setCell ?_ (by first | omega | (simp; done) | (simp; omega)) _ | with_reducible refine Below.grown ?_ (by assumption) (by first | omega | (simp; done) | (simp; omega)) (by intro k hk; cases hk; omega) | with_reducible refine Below.trans ?_ (Below.mono (by assumption) (by first | omega | (simp; done) | (simp; omega)))))⟩
        · rw [hm, Bool.true_and] at I1
          rw [meetVal_yes ha hb hm] at C5
          obtain ⟨x, hx⟩ : ∃ x, x = mX ax bx := ⟨_, rfl⟩
          obtain ⟨y, hy⟩ : ∃ y, y = mX ay by' := ⟨_, rfl⟩
          obtain ⟨c, hc⟩ : ∃ c, c = mW ax aw bx bw := ⟨_, rfl⟩
          obtain ⟨d, hd⟩ : ∃ d, d = mW ay ah by' bh := ⟨_, rfl⟩
          rw [← hx, ← hy, ← hc, ← hd] at C5 I1
          clear hx hy hc hd
          by_cases hq : x = ax ∧ y = ay ∧ c = aw ∧ d = ah
          · rw [decide_eq_true hq] at I1
            rw [I1] at C1 C2
            obtain ⟨rfl, rfl, rfl, rfl⟩ := hq
            clear I1
            go_at_call 30
            refine (C1 _).mono ?_
            rintro e w2 ⟨rfl, hb2⟩
            obtain ⟨hc2, hf2, -, hz2⟩ := bcell hb2
            (try simp at hz2)
            (try (have y2 : w.heap.size ≤ w2.heap.size := by omega))
            (try (have z2_0_0 : w.heap.size < w2.heap.size := by omega))
            (try (have z2_0_1 : w.heap.size + 1 < w2.heap.size := by omega))
            (try (have z2_0_2 : w.heap.size + 1 + 1 < w2.heap.size := by omega))
            (try (have z2_0_3 : w.heap.size + 1 + 1 + 1 < w2.heap.size := by omega))
            (try (have z2_1_0 : w1.heap.size < w2.heap.size := by omega))
            (try (have z2_1_1 : w1.heap.size + 1 < w2.heap.size := by omega))
            go_wp2_with fail
            go_at_call 31
            refine (C2 _).mono ?_
            rintro e w3 ⟨rfl, hb3⟩
            obtain ⟨hc3, hf3, -, hz3⟩ := bcell hb3
            (try simp at hz3)
            (try (have y3 : w.heap.size ≤ w3.heap.size := by omega))
            (try (have z3_0_0 : w.heap.size < w3.heap.size := by omega))
            (try (have z3_0_1 : w.heap.size + 1 < w3.heap.size := by omega))
            (try (have z3_0_2 : w.heap.size + 1 + 1 < w3.heap.size := by omega))
            (try (have z3_0_3 : w.heap.size + 1 + 1 + 1 < w3.heap.size := by omega))
            (try (have z3_1_0 : w1.heap.size < w3.heap.size := by omega))
            (try (have z3_1_1 : w1.heap.size + 1 < w3.heap.size := by omega))
            (try (have z3_2_0 : w2.heap.size < w3.heap.size := by omega))
            (try (have z3_2_1 : w2.heap.size + 1 < w3.heap.size := by omega))
            go_wp2_with fail
            go_at_call 20
            refine (C3 _).mono ?_
            rintro e w4 ⟨rfl, hb4⟩
            obtain ⟨hc4, hf4, -, hz4⟩ := bcell hb4
            (try simp at hz4)
            (try (have y4 : w.heap.size ≤ w4.heap.size := by omega))
            (try (have z4_0_0 : w.heap.size < w4.heap.size := by omega))
            (try (have z4_0_1 : w.heap.size + 1 < w4.heap.size := by omega))
            (try (have z4_0_2 : w.heap.size + 1 + 1 < w4.heap.size := by omega))
            (try (have z4_0_3 : w.heap.size + 1 + 1 + 1 < w4.heap.size := by omega))
            (try (have z4_1_0 : w1.heap.size < w4.heap.size := by omega))
            (try (have z4_1_1 : w1.heap.size + 1 < w4.heap.size := by omega))
            (try (have z4_2_0 : w2.heap.size < w4.heap.size := by omega))
            (try (have z4_2_1 : w2.heap.size + 1 < w4.heap.size := by omega))
            (try (have z4_3_0 : w3.heap.size < w4.heap.size := by omega))
            (try (have z4_3_1 : w3.heap.size + 1 < w4.heap.size := by omega))
            go_wp2_with fail
            go_at_call 20
            refine (C4 _).mono ?_
            rintro e w5 ⟨rfl, hb5⟩
            obtain ⟨hc5, hf5, -, hz5⟩ := bcell hb5
            (try simp at hz5)
            (try (have y5 : w.heap.size ≤ w5.heap.size := by omega))
            (try (have z5_0_0 : w.heap.size < w5.heap.size := by omega))
            (try (have z5_0_1 : w.heap.size + 1 < w5.heap.size := by omega))
            (try (have z5_0_2 : w.heap.size + 1 + 1 < w5.heap.size := by omega))
            (try (have z5_0_3 : w.heap.size + 1 + 1 + 1 < w5.heap.size := by omega))
            (try (have z5_1_0 : w1.heap.size < w5.heap.size := by omega))
            (try (have z5_1_1 : w1.heap.size + 1 < w5.heap.size := by omega))
            (try (have z5_2_0 : w2.heap.size < w5.heap.size := by omega))
            (try (have z5_2_1 : w2.heap.size + 1 < w5.heap.size := by omega))
            (try (have z5_3_0 : w3.heap.size < w5.heap.size := by omega))
            (try (have z5_3_1 : w3.heap.size + 1 < w5.heap.size := by omega))
            (try (have z5_4_0 : w4.heap.size < w5.heap.size := by omega))
            (try (have z5_4_1 : w4.heap.size + 1 < w5.heap.size := by omega))
            go_wp2_with fail
            go_at_call 24
            refine (C5 _).mono ?_
            rintro e w6 ⟨rfl, hb6⟩
            obtain ⟨hc6, hf6, -, hz6⟩ := bcell hb6
            (try simp at hz6)
            (try (have y6 : w.heap.size ≤ w6.heap.size := by omega))
            (try (have z6_0_0 : w.heap.size < w6.heap.size := by omega))
            (try (have z6_0_1 : w.heap.size + 1 < w6.heap.size := by omega))
            (try (have z6_0_2 : w.heap.size + 1 + 1 < w6.heap.size := by omega))
            (try (have z6_0_3 : w.heap.size + 1 + 1 + 1 < w6.heap.size := by omega))
            (try (have z6_1_0 : w1.heap.size < w6.heap.size := by omega))
            (try (have z6_1_1 : w1.heap.size + 1 < w6.heap.size := by omega))
            (try (have z6_2_0 : w2.heap.size < w6.heap.size := by omega))
            (try (have z6_2_1 : w2.heap.size + 1 < w6.heap.size := by omega))
            (try (have z6_3_0 : w3.heap.size < w6.heap.size := by omega))
            (try (have z6_3_1 : w3.heap.size + 1 < w6.heap.size := by omega))
            (try (have z6_4_0 : w4.heap.size < w6.heap.size := by omega))
            (try (have z6_4_1 : w4.heap.size + 1 < w6.heap.size := by omega))
            (try (have z6_5_0 : w5.heap.size < w6.heap.size := by omega))
            (try (have z6_5_1 : w5.heap.size + 1 < w6.heap.size := by omega))
            go_wp2_with fail
            go_ret
            exact ⟨rfl, (by repeat' (first | with_reducible exact Below.refl _ _ | with_reducible refine Below.alloc ?_ (by first | omega | (simp; done) | (simp; omega)) _ | with_reducible refine Below.drew ?_ | with_reducible refine below_drewN ?_ _ | with_reducible refine Below.setCell ?_ (by first | omega | (simp; done) | (simp; omega)) _ | with_reducible refine Below.grown ?_ (by assumption) (by first | omega | (simp; done) | (simp; omega)) (by intro k hk; cases hk; omega) | with_reducible refine Below.trans ?_ (Below.mono (by assumption) (by first | omega | (simp; done) | (simp; omega)))))⟩
          · rw [decide_eq_false hq] at I1
            rw [I1] at C1 C2
            clear I1
            go_at_call 30
            refine (C1 _).mono ?_
            rintro e w2 ⟨rfl, hb2⟩
            obtain ⟨hc2, hf2, -, hz2⟩ := bcell hb2
            (try simp at hz2)
            (try (have y2 : w.heap.size ≤ w2.heap.size := by omega))
            (try (have z2_0_0 : w.heap.size < w2.heap.size := by omega))
            (try (have z2_0_1 : w.heap.size + 1 < w2.heap.size := by omega))
            (try (have z2_0_2 : w.heap.size + 1 + 1 < w2.heap.size := by omega))
            (try (have z2_0_3 : w.heap.size + 1 + 1 + 1 < w2.heap.size := by omega))
            (try (have z2_1_0 : w1.heap.size < w2.heap.size := by omega))
            (try (have z2_1_1 : w1.heap.size + 1 < w2.heap.size := by omega))
            go_wp2_with fail
            go_at_call 31
            refine (C2 _).mono ?_
            rintro e w3 ⟨rfl, hb3⟩
            obtain ⟨hc3, hf3, -, hz3⟩ := bcell hb3
            (try simp at hz3)
            (try (have y3 : w.heap.size ≤ w3.heap.size := by omega))
            (try (have z3_0_0 : w.heap.size < w3.heap.size := by omega))
            (try (have z3_0_1 : w.heap.size + 1 < w3.heap.size := by omega))
            (try (have z3_0_2 : w.heap.size + 1 + 1 < w3.heap.size := by omega))
            (try (have z3_0_3 : w.heap.size + 1 + 1 + 1 < w3.heap.size := by omega))
            (try (have z3_1_0 : w1.heap.size < w3.heap.size := by omega))
            (try (have z3_1_1 : w1.heap.size + 1 < w3.heap.size := by omega))
            (try (have z3_2_0 : w2.heap.size < w3.heap.size := by omega))
            (try (have z3_2_1 : w2.heap.size + 1 < w3.heap.size := by omega))
            go_wp2_with fail
            go_at_call 20
            refine (C3 _).mono ?_
            rintro e w4 ⟨rfl, hb4⟩
            obtain ⟨hc4, hf4, -, hz4⟩ := bcell hb4
            (try simp at hz4)
            (try (have y4 : w.heap.size ≤ w4.heap.size := by omega))
            (try (have z4_0_0 : w.heap.size < w4.heap.size := by omega))
            (try (have z4_0_1 : w.heap.size + 1 < w4.heap.size := by omega))
            (try (have z4_0_2 : w.heap.size + 1 + 1 < w4.heap.size := by omega))
            (try (have z4_0_3 : w.heap.size + 1 + 1 + 1 < w4.heap.size := by omega))
            (try (have z4_1_0 : w1.heap.size < w4.heap.size := by omega))
            (try (have z4_1_1 : w1.heap.size + 1 < w4.heap.size := by omega))
            (try (have z4_2_0 : w2.heap.size < w4.heap.size := by omega))
            (try (have z4_2_1 : w2.heap.size + 1 < w4.heap.size := by omega))
            (try (have z4_3_0 : w3.heap.size < w4.heap.size := by omega))
            (try (have z4_3_1 : w3.heap.size + 1 < w4.heap.size := by omega))
            go_wp2_with fail
            go_at_call 20
            refine (C4 _).mono ?_
            rintro e w5 ⟨rfl, hb5⟩
            obtain ⟨hc5, hf5, -, hz5⟩ := bcell hb5
            (try simp at hz5)
            (try (have y5 : w.heap.size ≤ w5.heap.size := by omega))
            (try (have z5_0_0 : w.heap.size < w5.heap.size := by omega))
            (try (have z5_0_1 : w.heap.size + 1 < w5.heap.size := by omega))
            (try (have z5_0_2 : w.heap.size + 1 + 1 < w5.heap.size := by omega))
            (try (have z5_0_3 : w.heap.size + 1 + 1 + 1 < w5.heap.size := by omega))
            (try (have z5_1_0 : w1.heap.size < w5.heap.size := by omega))
            (try (have z5_1_1 : w1.heap.size + 1 < w5.heap.size := by omega))
            (try (have z5_2_0 : w2.heap.size < w5.heap.size := by omega))
            (try (have z5_2_1 : w2.heap.size + 1 < w5.heap.size := by omega))
            (try (have z5_3_0 : w3.heap.size < w5.heap.size := by omega))
            (try (have z5_3_1 : w3.heap.size + 1 < w5.heap.size := by omega))
            (try (have z5_4_0 : w4.heap.size < w5.heap.size := by omega))
            (try (have z5_4_1 : w4.heap.size + 1 < w5.heap.size := by omega))
            go_wp2_with fail
            go_at_call 24
            refine (C5 _).mono ?_
            rintro e w6 ⟨rfl, hb6⟩
            obtain ⟨hc6, hf6, -, hz6⟩ := bcell hb6
            (try simp at hz6)
            (try (have y6 : w.heap.size ≤ w6.heap.size := by omega))
            (try (have z6_0_0 : w.heap.size < w6.heap.size := by omega))
            (try (have z6_0_1 : w.heap.size + 1 < w6.heap.size := by omega))
            (try (have z6_0_2 : w.heap.size + 1 + 1 < w6.heap.size := by omega))
            (try (have z6_0_3 : w.heap.size + 1 + 1 + 1 < w6.heap.size := by omega))
            (try (have z6_1_0 : w1.heap.size < w6.heap.size := by omega))
            (try (have z6_1_1 : w1.heap.size + 1 < w6.heap.size := by omega))
            (try (have z6_2_0 : w2.heap.size < w6.heap.size := by omega))
            (try (have z6_2_1 : w2.heap.size + 1 < w6.heap.size := by omega))
            (try (have z6_3_0 : w3.heap.size < w6.heap.size := by omega))
            (try (have z6_3_1 : w3.heap.size + 1 < w6.heap.size := by omega))
            (try (have z6_4_0 : w4.heap.size < w6.heap.size := by omega))
            (try (have z6_4_1 : w4.heap.size + 1 < w6.heap.size := by omega))
            (try (have z6_5_0 : w5.heap.size < w6.heap.size := by omega))
            (try (have z6_5_1 : w5.heap.size + 1 < w6.heap.size := by omega))
            go_wp2_with fail
            all_goals (go_ret; refine ⟨?_, (by repeat' (first | with_reducible exact Below.refl _ _ | with_reducible refine Below.alloc ?_ (by first | omega | (simp; done) | (simp; omega)) _ | with_reducible refine Below.drew ?_ | with_reducible refine below_drewN ?_ _ | with_reducible refine Below.setCell ?_ (by first | omega | (simp; done) | (simp; omega)) _ | with_reducible refine Below.grown ?_ (by assumption) (by first | omega | (simp; done) | (simp; omega)) (by intro k hk; cases hk; omega) | with_reducible refine Below.trans ?_ (Below.mono (by assumption) (by first | omega | (simp; done) | (simp; omega)))))⟩)
            all_goals (first | rfl | (simp [*]; done) | trace_state)
end Go.Proofs.Ythaaclgonfekpaa
