/- The walk of the law FnTurnPane; no statement is proved here. -/
import Derived.Test.YthaaclgonfekpaaDraw
import Derived.Test.YthaaclgonfekpaaTurnP
import Derived.Test.YthaaclgonfekpaaLawsB0
namespace Go.Proofs.Ythaaclgonfekpaa
open Go.ChangeShapes Go.WideShapes Go.ChangeAt Go.RowKit
set_option linter.unusedVariables false
set_option linter.unusedSimpArgs false

set_option maxHeartbeats 3000000 in
theorem FnTurnPane_walk (v : Value) (w : World) (hv : BSl w v) : Calls Try.prog 7 #[v] w (Rt (.bool true) w) := by
  have hv' := hv
  obtain ⟨p, n, cap, rfl, _⟩ := hv'
  by_cases hn : 1048576 < n
  · have d1 : decide (1048576 < (n : Int)) = true := decide_eq_true (by omega)
    go_enter Try.func7, Try.ntmps7
    go_wp2
    go_ret
    exact ⟨rfl, Below.refl _ _⟩
  · have d1 : decide (1048576 < (n : Int)) = false := decide_eq_false (by omega)
    go_enter Try.func7, Try.ntmps7
    go_wp2_with fail
    go_at_call 26
    refine (DrawTurnPane_c hv).mono ?_
    rintro e w1 ⟨b, h, t, k, rfl, hb1⟩
    obtain ⟨hc1, hf1, -, hz1⟩ := bcell hb1
    (try simp at hz1)
    (try (have y1 : w.heap.size ≤ w1.heap.size := by omega))
    (try (have z1_0_0 : w.heap.size < w1.heap.size := by omega))
    (try (have z1_0_1 : w.heap.size + 1 < w1.heap.size := by omega))
    (try (have z1_0_2 : w.heap.size + 1 + 1 < w1.heap.size := by omega))
    (try (have z1_0_3 : w.heap.size + 1 + 1 + 1 < w1.heap.size := by omega))
    go_wp2_with fail
    have C3 := fun W => impl_ValidPane_c b h t k W
    have CE := fun W => equalPane_c 0 0 false 0 W
    have CF := fun W => equalPane_c h b t k W
    cases hp : vPane b h k
    · have HI : turnV b h t k = (.agg #[.int .i64 0, .int .i64 0, .bool false, .int .i64 0]) := by unfold turnV; rw [hp]
      have C1 := fun W => impl_TurnPane_c b h t k W
      have C2 := fun W => spec_TurnPane_c b h t k W
      rw [HI] at C1 C2
      rw [hp] at C3
      clear HI
      go_at_call 14
      refine (C1 _).mono ?_
      rintro e w2 ⟨rfl, hb2⟩
      obtain ⟨hc2, hf2, -, hz2⟩ := bcell hb2
      (try simp at hz2)
      (try (have y2 : w.heap.size ≤ w2.heap.size := by omega))
      (try (have z2_0_0 : w.heap.size < w2.heap.size := by omega))
      (try (have z2_0_1 : w.heap.size + 1 < w2.heap.size := by omega))
      (try (have z2_0_2 : w.heap.size + 1 + 1 < w2.heap.size := by omega))
      (try (have z2_0_3 : w.heap.size + 1 + 1 + 1 < w2.heap.size := by omega))
      (try (have z2_1_0 : w1.heap.size < w2.heap.size := by omega))
      (try (have z2_1_1 : w1.heap.size + 1 < w2.heap.size := by omega))
      go_wp2_with fail
      have y2a : w1.heap.size < w2.heap.size := by omega
      go_region_with (first | (go_at_call 12; refine (C2 _).mono ?_; rintro e w3 ⟨rfl, hb3⟩; have hz3 := hb3.size; (try simp [drew_size, drewN_size] at hz3); obtain ⟨ka, fa⟩ := bl_at (b := w1.heap.size) hb3 (by first | omega | (simp [drew_size, drewN_size]; done) | (simp [drew_size, drewN_size]; omega)); have zza : w1.heap.size < w3.heap.size := (by omega); obtain ⟨kb, fb⟩ := bl_at (b := w2.heap.size) hb3 (by first | omega | (simp [drew_size, drewN_size]; done) | (simp [drew_size, drewN_size]; omega)); have zzb : w2.heap.size < w3.heap.size := (by omega)) | (go_at_call 27; refine (CE _).mono ?_; rintro e w3 ⟨rfl, hb3⟩; have hz3 := hb3.size; (try simp [drew_size, drewN_size] at hz3); obtain ⟨ka, fa⟩ := bl_at (b := w1.heap.size) hb3 (by first | omega | (simp [drew_size, drewN_size]; done) | (simp [drew_size, drewN_size]; omega)); have zza : w1.heap.size < w3.heap.size := (by omega); obtain ⟨kb, fb⟩ := bl_at (b := w2.heap.size) hb3 (by first | omega | (simp [drew_size, drewN_size]; done) | (simp [drew_size, drewN_size]; omega)); have zzb : w2.heap.size < w3.heap.size := (by omega)) | (go_at_call 28; refine (C3 _).mono ?_; rintro e w3 ⟨rfl, hb3⟩; have hz3 := hb3.size; (try simp [drew_size, drewN_size] at hz3); obtain ⟨ka, fa⟩ := bl_at (b := w1.heap.size) hb3 (by first | omega | (simp [drew_size, drewN_size]; done) | (simp [drew_size, drewN_size]; omega)); have zza : w1.heap.size < w3.heap.size := (by omega); obtain ⟨kb, fb⟩ := bl_at (b := w2.heap.size) hb3 (by first | omega | (simp [drew_size, drewN_size]; done) | (simp [drew_size, drewN_size]; omega)); have zzb : w2.heap.size < w3.heap.size := (by omega)))
      all_goals (go_wp2_with fail; go_region_with (first | (go_at_call 12; refine (C2 _).mono ?_; rintro e w3 ⟨rfl, hb3⟩; have hz3 := hb3.size; (try simp [drew_size, drewN_size] at hz3); obtain ⟨ka, fa⟩ := bl_at (b := w1.heap.size) hb3 (by first | omega | (simp [drew_size, drewN_size]; done) | (simp [drew_size, drewN_size]; omega)); have zza : w1.heap.size < w3.heap.size := (by omega); obtain ⟨kb, fb⟩ := bl_at (b := w2.heap.size) hb3 (by first | omega | (simp [drew_size, drewN_size]; done) | (simp [drew_size, drewN_size]; omega)); have zzb : w2.heap.size < w3.heap.size := (by omega)) | (go_at_call 27; refine (CE _).mono ?_; rintro e w3 ⟨rfl, hb3⟩; have hz3 := hb3.size; (try simp [drew_size, drewN_size] at hz3); obtain ⟨ka, fa⟩ := bl_at (b := w1.heap.size) hb3 (by first | omega | (simp [drew_size, drewN_size]; done) | (simp [drew_size, drewN_size]; omega)); have zza : w1.heap.size < w3.heap.size := (by omega); obtain ⟨kb, fb⟩ := bl_at (b := w2.heap.size) hb3 (by first | omega | (simp [drew_size, drewN_size]; done) | (simp [drew_size, drewN_size]; omega)); have zzb : w2.heap.size < w3.heap.size := (by omega))))
      all_goals (go_wp2_with fail; go_ret; exact ⟨rfl, (by repeat' (first | with_reducible exact Below.refl _ _ | with_reducible refine Below.alloc ?_ (by first | omega | (simp; done) | (simp; omega)) _ | with_reducible refine Below.drew ?_ | with_reducible refine below_drewN ?_ _ | with_reducible refine Below.setCell ?_ (by first | omega | (simp; done) | (simp; omega)) _ | with_reducible refine Below.grown ?_ (by assumption) (by first | omega | (simp; done) | (simp; omega)) (by intro k hk; cases hk; omega) | with_reducible refine Below.trans ?_ (Below.mono (by assumption) (by first | omega | (simp; done) | (simp; omega)))))⟩)
    · have HI : turnV b h t k = (.agg #[.int .i64 h, .int .i64 b, .bool t, .int .i64 k]) := by unfold turnV; rw [hp]
      have hp2 : vPane h b k = true := by have := vPane_bd hp; unfold vPane; exact decide_eq_true (by omega)
      have HJ : turnV h b t k = (.agg #[.int .i64 b, .int .i64 h, .bool t, .int .i64 k]) := by unfold turnV; rw [hp2]
      have C1 := fun W => impl_TurnPane_c b h t k W
      have C2 := fun W => spec_TurnPane_c b h t k W
      have C4 := fun W => impl_TurnPane_c h b t k W
      have C5 := fun W => impl_ValidPane_c h b t k W
      rw [HI] at C1 C2
      rw [HJ] at C4
      rw [hp] at C3
      rw [hp2] at C5
      clear HI HJ
      go_at_call 14
      refine (C1 _).mono ?_
      rintro e w2 ⟨rfl, hb2⟩
      obtain ⟨hc2, hf2, -, hz2⟩ := bcell hb2
      (try simp at hz2)
      (try (have y2 : w.heap.size ≤ w2.heap.size := by omega))
      (try (have z2_0_0 : w.heap.size < w2.heap.size := by omega))
      (try (have z2_0_1 : w.heap.size + 1 < w2.heap.size := by omega))
      (try (have z2_0_2 : w.heap.size + 1 + 1 < w2.heap.size := by omega))
      (try (have z2_0_3 : w.heap.size + 1 + 1 + 1 < w2.heap.size := by omega))
      (try (have z2_1_0 : w1.heap.size < w2.heap.size := by omega))
      (try (have z2_1_1 : w1.heap.size + 1 < w2.heap.size := by omega))
      go_wp2_with fail
      have y2a : w1.heap.size < w2.heap.size := by omega
      go_region_with (first | (go_at_call 12; refine (C2 _).mono ?_; rintro e w3 ⟨rfl, hb3⟩; have hz3 := hb3.size; (try simp [drew_size, drewN_size] at hz3); obtain ⟨ka, fa⟩ := bl_at (b := w1.heap.size) hb3 (by first | omega | (simp [drew_size, drewN_size]; done) | (simp [drew_size, drewN_size]; omega)); have zza : w1.heap.size < w3.heap.size := (by omega); obtain ⟨kb, fb⟩ := bl_at (b := w2.heap.size) hb3 (by first | omega | (simp [drew_size, drewN_size]; done) | (simp [drew_size, drewN_size]; omega)); have zzb : w2.heap.size < w3.heap.size := (by omega)) | (go_at_call 27; refine (CF _).mono ?_; rintro e w3 ⟨rfl, hb3⟩; have hz3 := hb3.size; (try simp [drew_size, drewN_size] at hz3); obtain ⟨ka, fa⟩ := bl_at (b := w1.heap.size) hb3 (by first | omega | (simp [drew_size, drewN_size]; done) | (simp [drew_size, drewN_size]; omega)); have zza : w1.heap.size < w3.heap.size := (by omega); obtain ⟨kb, fb⟩ := bl_at (b := w2.heap.size) hb3 (by first | omega | (simp [drew_size, drewN_size]; done) | (simp [drew_size, drewN_size]; omega)); have zzb : w2.heap.size < w3.heap.size := (by omega)) | (go_at_call 28; refine (C3 _).mono ?_; rintro e w3 ⟨rfl, hb3⟩; have hz3 := hb3.size; (try simp [drew_size, drewN_size] at hz3); obtain ⟨ka, fa⟩ := bl_at (b := w1.heap.size) hb3 (by first | omega | (simp [drew_size, drewN_size]; done) | (simp [drew_size, drewN_size]; omega)); have zza : w1.heap.size < w3.heap.size := (by omega); obtain ⟨kb, fb⟩ := bl_at (b := w2.heap.size) hb3 (by first | omega | (simp [drew_size, drewN_size]; done) | (simp [drew_size, drewN_size]; omega)); have zzb : w2.heap.size < w3.heap.size := (by omega)))
      all_goals (go_wp2_with fail; go_region_with (first | (go_at_call 14; refine (C4 _).mono ?_; rintro e w3 ⟨rfl, hb3⟩; have hz3 := hb3.size; (try simp [drew_size, drewN_size] at hz3); obtain ⟨ka, fa⟩ := bl_at (b := w1.heap.size) hb3 (by first | omega | (simp [drew_size, drewN_size]; done) | (simp [drew_size, drewN_size]; omega)); have zza : w1.heap.size < w3.heap.size := (by omega); obtain ⟨kb, fb⟩ := bl_at (b := w2.heap.size) hb3 (by first | omega | (simp [drew_size, drewN_size]; done) | (simp [drew_size, drewN_size]; omega)); have zzb : w2.heap.size < w3.heap.size := (by omega)) | (go_at_call 28; refine (C5 _).mono ?_; rintro e w3 ⟨rfl, hb3⟩; have hz3 := hb3.size; (try simp [drew_size, drewN_size] at hz3); obtain ⟨ka, fa⟩ := bl_at (b := w1.heap.size) hb3 (by first | omega | (simp [drew_size, drewN_size]; done) | (simp [drew_size, drewN_size]; omega)); have zza : w1.heap.size < w3.heap.size := (by omega); obtain ⟨kb, fb⟩ := bl_at (b := w2.heap.size) hb3 (by first | omega | (simp [drew_size, drewN_size]; done) | (simp [drew_size, drewN_size]; omega)); have zzb : w2.heap.size < w3.heap.size := (by omega))))
      all_goals (go_wp2_with fail; go_ret; exact ⟨rfl, (by repeat' (first | with_reducible exact Below.refl _ _ | with_reducible refine Below.alloc ?_ (by first | omega | (simp; done) | (simp; omega)) _ | with_reducible refine Below.drew ?_ | with_reducible refine below_drewN ?_ _ | with_reducible refine Below.setCell ?_ (by first | omega | (simp; done) | (simp; omega)) _ | with_reducible refine Below.grown ?_ (by assumption) (by first | omega | (simp; done) | (simp; omega)) (by intro k hk; cases hk; omega) | with_reducible refine Below.trans ?_ (Below.mono (by assumption) (by first | omega | (simp; done) | (simp; omega)))))⟩)
end Go.Proofs.Ythaaclgonfekpaa
