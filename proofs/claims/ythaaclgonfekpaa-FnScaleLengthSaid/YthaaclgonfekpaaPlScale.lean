/- Scaled lengths, plain law; no program in sight, no statement is proved here. -/
import Derived.Test.YthaaclgonfekpaaScale
namespace Go.Proofs.Ythaaclgonfekpaa
set_option linter.unusedVariables false
set_option linter.unusedSimpArgs false

theorem scaleN_eq (n bar x : Int) : scaleN n bar x = if (n + 1) * x % bar = 0 then n * x else (n + 1) * x / bar * bar := by unfold scaleN; rfl
/-- by quotient and remainder -/
theorem scaleN_qr {n bar x q r : Int} (hb : 0 < bar) (h : (n + 1) * x = bar * q + r) (h0 : 0 ≤ r) (h1 : r < bar) : scaleN n bar x = if r = 0 then n * x else bar * q := by
  have hq : (n + 1) * x / bar = q ∧ (n + 1) * x % bar = r := (Int.ediv_emod_unique hb).2 ⟨by rw [h]; omega, h0, h1⟩
  rw [scaleN_eq, hq.1, hq.2, Int.mul_comm q bar]
theorem qr (n bar x : Int) (hb : 0 < bar) : ∃ q r, (n + 1) * x = bar * q + r ∧ 0 ≤ r ∧ r < bar :=
  ⟨(n + 1) * x / bar, (n + 1) * x % bar, (Int.mul_ediv_add_emod _ _).symm, Int.emod_nonneg _ (by omega), Int.emod_lt_of_pos _ hb⟩
theorem expand (n x : Int) : (n + 1) * x = n * x + x := by rw [Int.add_mul, Int.one_mul]
theorem scale_pair {n bar x : Int} (h : 1 ≤ n ∧ n ≤ 6 ∧ 1 ≤ bar ∧ bar ≤ 200 ∧ 0 ≤ x ∧ x ≤ bar) : scaleN n bar x + scaleN n bar (bar - x) ≤ n * bar := by
  obtain ⟨q, r, e, h0, h1⟩ := qr n bar x (by omega)
  have e1 := expand n x
  have e2 : (n + 1) * (bar - x) = (n * bar + bar) - (n + 1) * x := by rw [Int.mul_sub, expand]
  have e3 : n * (bar - x) = n * bar - n * x := Int.mul_sub _ _ _
  rw [scaleN_qr (by omega) e h0 h1]
  by_cases hr : r = 0
  · have e4 : bar * (n + 1 - q) = bar * n + bar - bar * q := by rw [Int.mul_sub, Int.mul_add, Int.mul_one]
    have e5 : bar * n = n * bar := Int.mul_comm _ _
    rw [scaleN_qr (q := n + 1 - q) (r := 0) (by omega) (by omega) (by omega) (by omega), if_pos hr, if_pos rfl]
    omega
  · have e4 : bar * (n - q) = bar * n - bar * q := Int.mul_sub _ _ _
    have e5 : bar * n = n * bar := Int.mul_comm _ _
    rw [scaleN_qr (q := n - q) (r := bar - r) (by omega) (by omega) (by omega) (by omega), if_neg hr, if_neg (by omega)]
    omega
theorem scale_up {n bar x : Int} (h : 1 ≤ n ∧ n ≤ 6 ∧ 1 ≤ bar ∧ bar ≤ 200 ∧ 0 ≤ x ∧ x < bar) : scaleN n bar x ≤ scaleN n bar (x + 1) := by
  obtain ⟨q, r, e, h0, h1⟩ := qr n bar x (by omega)
  obtain ⟨p, s, f, k0, k1⟩ := qr n bar (x + 1) (by omega)
  have e1 := expand n x
  have e2 := expand n (x + 1)
  have e3 : n * (x + 1) = n * x + n := by rw [Int.mul_add, Int.mul_one]
  rw [scaleN_qr (by omega) e h0 h1, scaleN_qr (by omega) f k0 k1]
  have hqp : q ≤ p := by
    have : ¬ (p < q) := fun hlt => by
      have : bar * p ≤ bar * (q - 1) := Int.mul_le_mul_of_nonneg_left (by omega) (by omega)
      rw [Int.mul_sub, Int.mul_one] at this
      omega
    omega
  have hm : bar * q ≤ bar * p := Int.mul_le_mul_of_nonneg_left hqp (by omega)
  by_cases hr : r = 0 <;> by_cases hs : s = 0
  · rw [if_pos hr, if_pos hs]; omega
  · rw [if_pos hr, if_neg hs]; omega
  · rw [if_neg hr, if_pos hs]
    have hlt : q < p := by
      have : ¬ (p = q) := fun he => by subst he; omega
      omega
    have hm2 : bar * (q + 1) ≤ bar * p := Int.mul_le_mul_of_nonneg_left hlt (by omega)
    rw [Int.mul_add, Int.mul_one] at hm2
    omega
  · rw [if_neg hr, if_neg hs]; omega
theorem scale_all {n bar : Int} (h : 1 ≤ n ∧ n ≤ 6 ∧ 1 ≤ bar ∧ bar ≤ 200) : scaleN n bar bar = n * bar := by
  rw [scaleN_qr (q := n + 1) (r := 0) (by omega) (by rw [Int.mul_comm]; omega) (by omega) (by omega), if_pos rfl]
theorem scale_bd {n bar x : Int} (h : 1 ≤ n ∧ n ≤ 6 ∧ 1 ≤ bar ∧ bar ≤ 200 ∧ 0 ≤ x ∧ x ≤ bar) : 0 ≤ scaleN n bar x ∧ scaleN n bar x ≤ 2000 := by
  obtain ⟨q, r, e, h0, h1⟩ := qr n bar x (by omega)
  have e1 := expand n x
  have p2 := prod_bd (a := n) (x := x) (b := 7) (c := 200) (by omega) (by omega) (by omega) (by omega)
  rw [scaleN_qr (by omega) e h0 h1]
  have hq : 0 ≤ q := by
    have : ¬ (q < 0) := fun hlt => by
      have : bar * q ≤ bar * (-1) := Int.mul_le_mul_of_nonneg_left (by omega) (by omega)
      omega
    omega
  have hm : 0 ≤ bar * q := Int.mul_nonneg (by omega) hq
  by_cases hr : r = 0
  · rw [if_pos hr]; omega
  · rw [if_neg hr]; omega
end Go.Proofs.Ythaaclgonfekpaa
