/- The walk of the law FnExactTurnPane; no statement is proved here. -/
import Derived.Test.YthaaclgonfekpaaTurnP
import Derived.Test.YthaaclgonfekpaaLawsB0
namespace Go.Proofs.Ythaaclgonfekpaa
open Go.ChangeShapes Go.WideShapes Go.ChangeAt Go.RowKit
set_option linter.unusedVariables false
set_option linter.unusedSimpArgs false

set_option maxHeartbeats 1600000 in
theorem FnExactTurnPane_walk (b h : Int) (t : Bool) (k : Int) (w : World) : Calls Try.prog 3 #[(.agg #[.int .i64 b, .int .i64 h, .bool t, .int .i64 k])] w (Rt (.bool true) w) := by
  obtain ⟨b', h', t', k', hv⟩ : ∃ b' h' t' k', turnV b h t k = (.agg #[.int .i64 b', .int .i64 h', .bool t', .int .i64 k']) := by
    unfold turnV; cases vPane b h k <;> exact ⟨_, _, _, _, rfl⟩
  have C1 := fun W => spec_TurnPane_c b h t k W
  have C2 := fun W => impl_TurnPane_c b h t k W
  rw [hv] at C1 C2
  clear hv
  go_enter Try.func3, Try.ntmps3
  go_wp2_with fail
  go_at_call 13
  refine (toPane_c _ _ _ _ _).mono ?_
  rintro e w1 ⟨rfl, hb1⟩
  obtain ⟨hc1, hf1, -, hz1⟩ := bcell hb1
  (try simp at hz1)
  (try (have y1 : w.heap.size ≤ w1.heap.size := by omega))
  (try (have z1_0_0 : w.heap.size < w1.heap.size := by omega))
  (try (have z1_0_1 : w.heap.size + 1 < w1.heap.size := by omega))
  (try (have z1_0_2 : w.heap.size + 1 + 1 < w1.heap.size := by omega))
  (try (have z1_0_3 : w.heap.size + 1 + 1 + 1 < w1.heap.size := by omega))
  go_wp2_with fail
  go_at_call 12
  refine (C1 _).mono ?_
  rintro e w2 ⟨rfl, hb2⟩
  obtain ⟨hc2, hf2, -, hz2⟩ := bcell hb2
  (try simp at hz2)
  (try (have y2 : w.heap.size ≤ w2.heap.size := by omega))
  (try (have z2_0_0 : w.heap.size < w2.heap.size := by omega))
  (try (have z2_0_1 : w.heap.size + 1 < w2.heap.size := by omega))
  (try (have z2_0_2 : w.heap.size + 1 + 1 < w2.heap.size := by omega))
  (try (have z2_0_3 : w.heap.size + 1 + 1 + 1 < w2.heap.size := by omega))
  (try (have z2_1_0 : w1.heap.size < w2.heap.size := by omega))
  (try (have z2_1_1 : w1.heap.size + 1 < w2.heap.size := by omega))
  go_wp2_with fail
  go_at_call 13
  refine (toPane_c _ _ _ _ _).mono ?_
  rintro e w3 ⟨rfl, hb3⟩
  obtain ⟨hc3, hf3, -, hz3⟩ := bcell hb3
  (try simp at hz3)
  (try (have y3 : w.heap.size ≤ w3.heap.size := by omega))
  (try (have z3_0_0 : w.heap.size < w3.heap.size := by omega))
  (try (have z3_0_1 : w.heap.size + 1 < w3.heap.size := by omega))
  (try (have z3_0_2 : w.heap.size + 1 + 1 < w3.heap.size := by omega))
  (try (have z3_0_3 : w.heap.size + 1 + 1 + 1 < w3.heap.size := by omega))
  (try (have z3_1_0 : w1.heap.size < w3.heap.size := by omega))
  (try (have z3_1_1 : w1.heap.size + 1 < w3.heap.size := by omega))
  (try (have z3_2_0 : w2.heap.size < w3.heap.size := by omega))
  (try (have z3_2_1 : w2.heap.size + 1 < w3.heap.size := by omega))
  go_wp2_with fail
  go_at_call 14
  refine (C2 _).mono ?_
  rintro e w4 ⟨rfl, hb4⟩
  obtain ⟨hc4, hf4, -, hz4⟩ := bcell hb4
  (try simp at hz4)
  (try (have y4 : w.heap.size ≤ w4.heap.size := by omega))
  (try (have z4_0_0 : w.heap.size < w4.heap.size := by omega))
  (try (have z4_0_1 : w.heap.size + 1 < w4.heap.size := by omega))
  (try (have z4_0_2 : w.heap.size + 1 + 1 < w4.heap.size := by omega))
  (try (have z4_0_3 : w.heap.size + 1 + 1 + 1 < w4.heap.size := by omega))
  (try (have z4_1_0 : w1.heap.size < w4.heap.size := by omega))
  (try (have z4_1_1 : w1.heap.size + 1 < w4.heap.size := by omega))
  (try (have z4_2_0 : w2.heap.size < w4.heap.size := by omega))
  (try (have z4_2_1 : w2.heap.size + 1 < w4.heap.size := by omega))
  (try (have z4_3_0 : w3.heap.size < w4.heap.size := by omega))
  (try (have z4_3_1 : w3.heap.size + 1 < w4.heap.size := by omega))
  go_wp2_with fail
  go_at_call 15
  refine (eqPane_c _ _ _ _ _).mono ?_
  rintro e w5 ⟨rfl, hb5⟩
  obtain ⟨hc5, hf5, -, hz5⟩ := bcell hb5
  (try simp at hz5)
  (try (have y5 : w.heap.size ≤ w5.heap.size := by omega))
  (try (have z5_0_0 : w.heap.size < w5.heap.size := by omega))
  (try (have z5_0_1 : w.heap.size + 1 < w5.heap.size := by omega))
  (try (have z5_0_2 : w.heap.size + 1 + 1 < w5.heap.size := by omega))
  (try (have z5_0_3 : w.heap.size + 1 + 1 + 1 < w5.heap.size := by omega))
  (try (have z5_1_0 : w1.heap.size < w5.heap.size := by omega))
  (try (have z5_1_1 : w1.heap.size + 1 < w5.heap.size := by omega))
  (try (have z5_2_0 : w2.heap.size < w5.heap.size := by omega))
  (try (have z5_2_1 : w2.heap.size + 1 < w5.heap.size := by omega))
  (try (have z5_3_0 : w3.heap.size < w5.heap.size := by omega))
  (try (have z5_3_1 : w3.heap.size + 1 < w5.heap.size := by omega))
  (try (have z5_4_0 : w4.heap.size < w5.heap.size := by omega))
  (try (have z5_4_1 : w4.heap.size + 1 < w5.heap.size := by omega))
  go_wp2_with fail
  go_ret
  exact ⟨rfl, (by repeat' (first | with_reducible exact Below.refl _ _ | with_reducible refine Below.alloc ?_ (by first | omega | (simp; done) | (simp; omega)) _ | with_reducible refine Below.drew ?_ | with_reducible refine below_drewN ?_ _ | with_reducible refine Below.setCell ?_ (by first | omega | (simp; done) | (simp; omega)) _ | with_reducible refine Below.grown ?_ (by assumption) (by first | omega | (simp; done) | (simp; omega)) (by intro k hk; cases hk; omega) | with_reducible refine Below.trans ?_ (Below.mono (by assumption) (by first | omega | (simp; done) | (simp; omega)))))⟩
end Go.Proofs.Ythaaclgonfekpaa
