/- The walk of the law FnLowerTo; no statement is proved here. -/
import Derived.Test.YtddpjgcodnfbjaaDrawI
import Derived.Test.YtddpjgcodnfbjaaPlLow
import Derived.Test.YtddpjgcodnfbjaaEq
namespace Go.Proofs.Ytddpjgcodnfbjaa
open Go.ChangeShapes Go.WideShapes Go.ChangeAt Go.RowKit
set_option linter.unusedVariables false
set_option linter.unusedSimpArgs false

set_option maxHeartbeats 1600000 in
theorem FnLowerTo_walk (v : Value) (w : World) (hv : BSl w v) : Calls Try.prog 7 #[v] w (Rt (.bool true) w) := by
  have hv' := hv
  obtain ⟨p, n, cap, rfl, _⟩ := hv'
  by_cases hn : 1048576 < n
  · have d1 : decide (1048576 < (n : Int)) = true := decide_eq_true (by omega)
    go_enter Try.func7, Try.ntmps7
    go_wp2
    go_ret
    exact ⟨rfl, Below.refl _ _⟩
  · have d1 : decide (1048576 < (n : Int)) = false := decide_eq_false (by omega)
    go_enter Try.func7, Try.ntmps7
    go_wp2_with fail
    go_at_call 32
    refine (DrawLowerTo_c hv).mono ?_
    rintro e w1 ⟨h, k, c, zs, a, rfl, ho, hk, hb1⟩
    obtain ⟨hc1, hf1, -, hz1⟩ := bcell hb1
    (try simp at hz1)
    (try (have y1 : w.heap.size ≤ w1.heap.size := by omega))
    (try (have z1_0_0 : w.heap.size < w1.heap.size := by omega))
    (try (have z1_0_1 : w.heap.size + 1 < w1.heap.size := by omega))
    (try (have z1_0_2 : w.heap.size + 1 + 1 < w1.heap.size := by omega))
    (try (have z1_0_3 : w.heap.size + 1 + 1 + 1 < w1.heap.size := by omega))
    have s1 := ho.sm (by omega)
    have hkz := s1.len
    have C1 := fun (W : World) (s : Sl W h 0 k c zs) => impl_LowerTo_s (a := a) s
    have C2 := fun (W : World) (s : Sl W h 0 k c zs) => spec_LowerTo_s (a := a) s
    by_cases hok : vLen zs = true ∧ 0 ≤ a ∧ a ≤ 200
    · obtain ⟨i, r1, r2, r3, r4, r5⟩ := low_facts hok.1 hok.2
      have C3 := fun (W : World) (s : Sl W h 0 k c zs) => impl_SumsOf_s (a := a) s
      have C4 := fun (W : World) (s : Sl W h 0 k c zs) => impl_LowerTo_s (a := (i : Int)) s
      simp only [r1] at C1 C2
      simp only [r2] at C4
      obtain ⟨S, hS⟩ : ∃ S, S = sumsR zs a := ⟨_, rfl⟩
      have hSs : S.length ≤ 1048576 := by rw [hS]; exact sumsR_short
      rw [← hS] at C3 r3 r4
      obtain ⟨q, hq⟩ : ∃ q, S.length = q + 1 := ⟨S.length - 1, by omega⟩
      rw [hq, Nat.add_sub_cancel] at r4
      have HQ := mkhid hq
      have R4 := mkhid r4
      have hq2 : q + 1 ≤ 1048576 := by omega
      clear hok r1 r2 r3 r4 hS hSs hq hkz
      go_wp2_with fail
      go_at_call 33
      refine (C1 _ s1).mono ?_
      rintro e w2 ⟨rfl, hb2⟩
      obtain ⟨hc2, hf2, -, hz2⟩ := bcell hb2
      (try simp at hz2)
      (try (have y2 : w.heap.size ≤ w2.heap.size := by omega))
      (try (have z2_0_0 : w.heap.size < w2.heap.size := by omega))
      (try (have z2_0_1 : w.heap.size + 1 < w2.heap.size := by omega))
      (try (have z2_0_2 : w.heap.size + 1 + 1 < w2.heap.size := by omega))
      (try (have z2_0_3 : w.heap.size + 1 + 1 + 1 < w2.heap.size := by omega))
      (try (have z2_1_0 : w1.heap.size < w2.heap.size := by omega))
      (try (have z2_1_1 : w1.heap.size + 1 < w2.heap.size := by omega))
      go_wp2_with fail
      go_at_call 34
      refine (C2 _ (s1.below hb2)).mono ?_
      rintro e w3 ⟨rfl, hb3⟩
      obtain ⟨hc3, hf3, -, hz3⟩ := bcell hb3
      (try simp at hz3)
      (try (have y3 : w.heap.size ≤ w3.heap.size := by omega))
      (try (have z3_0_0 : w.heap.size < w3.heap.size := by omega))
      (try (have z3_0_1 : w.heap.size + 1 < w3.heap.size := by omega))
      (try (have z3_0_2 : w.heap.size + 1 + 1 < w3.heap.size := by omega))
      (try (have z3_0_3 : w.heap.size + 1 + 1 + 1 < w3.heap.size := by omega))
      (try (have z3_1_0 : w1.heap.size < w3.heap.size := by omega))
      (try (have z3_1_1 : w1.heap.size + 1 < w3.heap.size := by omega))
      (try (have z3_2_0 : w2.heap.size < w3.heap.size := by omega))
      (try (have z3_2_1 : w2.heap.size + 1 < w3.heap.size := by omega))
      go_wp2_with fail
      have s3 := (s1.below hb2).below hb3
      go_at_call 35
      refine (C3 _ s3).mono ?_
      rintro e w4 ⟨v4, rfl, ho4, hb4⟩
      obtain ⟨hc4, hf4, -, hz4⟩ := bcell hb4
      (try simp at hz4)
      (try (have y4 : w.heap.size ≤ w4.heap.size := by omega))
      (try (have z4_0_0 : w.heap.size < w4.heap.size := by omega))
      (try (have z4_0_1 : w.heap.size + 1 < w4.heap.size := by omega))
      (try (have z4_0_2 : w.heap.size + 1 + 1 < w4.heap.size := by omega))
      (try (have z4_0_3 : w.heap.size + 1 + 1 + 1 < w4.heap.size := by omega))
      (try (have z4_1_0 : w1.heap.size < w4.heap.size := by omega))
      (try (have z4_1_1 : w1.heap.size + 1 < w4.heap.size := by omega))
      (try (have z4_2_0 : w2.heap.size < w4.heap.size := by omega))
      (try (have z4_2_1 : w2.heap.size + 1 < w4.heap.size := by omega))
      (try (have z4_3_0 : w3.heap.size < w4.heap.size := by omega))
      (try (have z4_3_1 : w3.heap.size + 1 < w4.heap.size := by omega))
      obtain ⟨g4, c4, rfl⟩ := own_form ho4 HQ.out (by omega)
      have f1 := (own_facts ho4 q).1 (by omega)
      rw [R4.out] at f1
      go_wp2_with fail
      go_at_call 33
      refine (C4 _ (s3.below hb4)).mono ?_
      rintro e w5 ⟨rfl, hb5⟩
      obtain ⟨hc5, hf5, -, hz5⟩ := bcell hb5
      (try simp at hz5)
      (try (have y5 : w.heap.size ≤ w5.heap.size := by omega))
      (try (have z5_0_0 : w.heap.size < w5.heap.size := by omega))
      (try (have z5_0_1 : w.heap.size + 1 < w5.heap.size := by omega))
      (try (have z5_0_2 : w.heap.size + 1 + 1 < w5.heap.size := by omega))
      (try (have z5_0_3 : w.heap.size + 1 + 1 + 1 < w5.heap.size := by omega))
      (try (have z5_1_0 : w1.heap.size < w5.heap.size := by omega))
      (try (have z5_1_1 : w1.heap.size + 1 < w5.heap.size := by omega))
      (try (have z5_2_0 : w2.heap.size < w5.heap.size := by omega))
      (try (have z5_2_1 : w2.heap.size + 1 < w5.heap.size := by omega))
      (try (have z5_3_0 : w3.heap.size < w5.heap.size := by omega))
      (try (have z5_3_1 : w3.heap.size + 1 < w5.heap.size := by omega))
      (try (have z5_4_0 : w4.heap.size < w5.heap.size := by omega))
      (try (have z5_4_1 : w4.heap.size + 1 < w5.heap.size := by omega))
      go_wp2_with fail
      go_ret
      exact ⟨rfl, (by repeat' (first | with_reducible exact Below.refl _ _ | with_reducible refine Below.alloc ?_ (by first | omega | (simp; done) | (simp; omega)) _ | with_reducible refine Below.drew ?_ | with_reducible refine below_drewN ?_ _ | with_reducible refine Below.setCell ?_ (by first | omega | (simp; done) | (simp; omega)) _ | with_reducible refine Below.grown ?_ (by assumption) (by first | omega | (simp; done) | (simp; omega)) (by intro k hk; cases hk; omega) | with_reducible refine Below.trans ?_ (Below.mono (by assumption) (by first | omega | (simp; done) | (simp; omega)))))⟩
    · have r1 := low_no hok
      simp only [r1] at C1 C2
      clear hok r1 hkz
      go_wp2_with fail
      go_at_call 33
      refine (C1 _ s1).mono ?_
      rintro e w2 ⟨rfl, hb2⟩
      obtain ⟨hc2, hf2, -, hz2⟩ := bcell hb2
      (try simp at hz2)
      (try (have y2 : w.heap.size ≤ w2.heap.size := by omega))
      (try (have z2_0_0 : w.heap.size < w2.heap.size := by omega))
      (try (have z2_0_1 : w.heap.size + 1 < w2.heap.size := by omega))
      (try (have z2_0_2 : w.heap.size + 1 + 1 < w2.heap.size := by omega))
      (try (have z2_0_3 : w.heap.size + 1 + 1 + 1 < w2.heap.size := by omega))
      (try (have z2_1_0 : w1.heap.size < w2.heap.size := by omega))
      (try (have z2_1_1 : w1.heap.size + 1 < w2.heap.size := by omega))
      go_wp2_with fail
      go_at_call 34
      refine (C2 _ (s1.below hb2)).mono ?_
      rintro e w3 ⟨rfl, hb3⟩
      obtain ⟨hc3, hf3, -, hz3⟩ := bcell hb3
      (try simp at hz3)
      (try (have y3 : w.heap.size ≤ w3.heap.size := by omega))
      (try (have z3_0_0 : w.heap.size < w3.heap.size := by omega))
      (try (have z3_0_1 : w.heap.size + 1 < w3.heap.size := by omega))
      (try (have z3_0_2 : w.heap.size + 1 + 1 < w3.heap.size := by omega))
      (try (have z3_0_3 : w.heap.size + 1 + 1 + 1 < w3.heap.size := by omega))
      (try (have z3_1_0 : w1.heap.size < w3.heap.size := by omega))
      (try (have z3_1_1 : w1.heap.size + 1 < w3.heap.size := by omega))
      (try (have z3_2_0 : w2.heap.size < w3.heap.size := by omega))
      (try (have z3_2_1 : w2.heap.size + 1 < w3.heap.size := by omega))
      go_wp2_with fail
      go_at_call 34
      refine (C2 _ ((s1.below hb2).below hb3)).mono ?_
      rintro e w4 ⟨rfl, hb4⟩
      obtain ⟨hc4, hf4, -, hz4⟩ := bcell hb4
      (try simp at hz4)
      (try (have y4 : w.heap.size ≤ w4.heap.size := by omega))
      (try (have z4_0_0 : w.heap.size < w4.heap.size := by omega))
      (try (have z4_0_1 : w.heap.size + 1 < w4.heap.size := by omega))
      (try (have z4_0_2 : w.heap.size + 1 + 1 < w4.heap.size := by omega))
      (try (have z4_0_3 : w.heap.size + 1 + 1 + 1 < w4.heap.size := by omega))
      (try (have z4_1_0 : w1.heap.size < w4.heap.size := by omega))
      (try (have z4_1_1 : w1.heap.size + 1 < w4.heap.size := by omega))
      (try (have z4_2_0 : w2.heap.size < w4.heap.size := by omega))
      (try (have z4_2_1 : w2.heap.size + 1 < w4.heap.size := by omega))
      (try (have z4_3_0 : w3.heap.size < w4.heap.size := by omega))
      (try (have z4_3_1 : w3.heap.size + 1 < w4.heap.size := by omega))
      go_wp2_with fail
      go_ret
      exact ⟨rfl, (by repeat' (first | with_reducible exact Below.refl _ _ | with_reducible refine Below.alloc ?_ (by first | omega | (simp; done) | (simp; omega)) _ | with_reducible refine Below.drew ?_ | with_reducible refine below_drewN ?_ _ | with_reducible refine Below.setCell ?_ (by first | omega | (simp; done) | (simp; omega)) _ | with_reducible refine Below.grown ?_ (by assumption) (by first | omega | (simp; done) | (simp; omega)) (by intro k hk; cases hk; omega) | with_reducible refine Below.trans ?_ (Below.mono (by assumption) (by first | omega | (simp; done) | (simp; omega)))))⟩
end Go.Proofs.Ytddpjgcodnfbjaa
