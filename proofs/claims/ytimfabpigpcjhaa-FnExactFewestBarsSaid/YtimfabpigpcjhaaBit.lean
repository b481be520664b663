/- Sets of numbers as bits: sumIn of impl, has, power of spec; no statement is proved here. -/
import Derived.Test.YtimfabpigpcjhaaInts
namespace Go.Proofs.Ytimfabpigpcjhaa
open Go.ChangeShapes Go.WideShapes Go.ChangeAt Go.RowKit
set_option linter.unusedVariables false
set_option linter.unusedSimpArgs false

/-- number i is in the set s -/
def bt (s i : Nat) : Bool := decide (s / 2 ^ i % 2 = 1)
theorem and_one : ∀ a : Nat, a < 128 → bits .and .i64 (a : Int) 1 = ((a % 2 : Nat) : Int) := by decide +kernel
theorem pow_cast (k : Nat) : ((2 : Int) ^ k) = ((2 ^ k : Nat) : Int) := by simp
theorem shr_cast (s k : Nat) : (s : Int) / 2 ^ k = ((s / 2 ^ k : Nat) : Int) := by rw [pow_cast]; simp
theorem and_bt {s k : Nat} (hs : s < 128) : (bits .and .i64 ((s : Int) / 2 ^ k) 1 == 1) = bt s k := by
  rw [shr_cast, and_one _ (Nat.lt_of_le_of_lt (Nat.div_le_self _ _) hs)]
  unfold bt
  generalize s / 2 ^ k % 2 = q
  rw [Bool.eq_iff_iff]
  simp
  omega
theorem compl_bt : ∀ n : Nat, n < 8 → ∀ s : Nat, s < 2 ^ n → ∀ i : Nat, i < n → bt (2 ^ n - 1 - s) i = !bt s i := by decide +kernel
theorem compl_and : ∀ n : Nat, n < 8 → ∀ s : Nat, s < 2 ^ n → bits .andNot .i64 ((2 ^ n - 1 : Nat) : Int) (s : Int) = ((2 ^ n - 1 - s : Nat) : Int) := by decide +kernel
theorem all_bt : ∀ n : Nat, n < 8 → ∀ i : Nat, i < n → bt (2 ^ n - 1) i = true := by decide +kernel
theorem pow_le7 : ∀ n : Nat, n < 8 → 2 ^ n ≤ 128 ∧ 1 ≤ 2 ^ n := by decide
/-- what of the first k numbers is in the set -/
def bsT (zs : List Int) (s : Nat) : Nat → Int
  | 0 => 0
  | k + 1 => bsT zs s k + if bt s k = true then el zs k else 0
@[irreducible] def bsS (zs : List Int) (s k : Nat) : Int := bsT zs s k
theorem bsS_zero (zs : List Int) (s : Nat) : bsS zs s 0 = 0 := by unfold bsS; rfl
theorem bsS_yes {zs : List Int} {s k : Nat} (h : bt s k = true) : bsS zs s (k + 1) = bsS zs s k + el zs k := by
  unfold bsS
  show bsT zs s k + (if bt s k = true then el zs k else 0) = _
  rw [if_pos h]
theorem bsS_no {zs : List Int} {s k : Nat} (h : bt s k = false) : bsS zs s (k + 1) = bsS zs s k := by
  unfold bsS
  show bsT zs s k + (if bt s k = true then el zs k else 0) = _
  rw [h]; simp
/-- weights that are right -/
def okW (zs : List Int) (k : Nat) : Prop := ∀ i, i < k → 1 ≤ el zs i ∧ el zs i ≤ 1000
theorem bsS_bd {zs : List Int} {n : Nat} (h : okW zs n) (s : Nat) {k : Nat} (hk : k ≤ n) : 0 ≤ bsS zs s k ∧ bsS zs s k ≤ 1000 * k := by
  induction k with
  | zero => rw [bsS_zero]; omega
  | succ k ih =>
    have := ih (by omega)
    have hb := h k (by omega)
    cases hh : bt s k
    · rw [bsS_no hh]; omega
    · rw [bsS_yes hh]; omega
theorem impl_sumIn_s {b off n cap : Nat} {zs : List Int} {w : World} (h : Sl w b off n cap zs) (hn : n ≤ 7) (ho : okW zs n) (s : Nat) (hs : s < 128) :
    Calls Try.prog 63 #[.slice (some ⟨b, off, none⟩) n cap, (.int .i64 ((s : Int)))] w (Rs (.int .i64 (bsS zs s n)) w) := by
  go_enter Try.func63, Try.ntmps63
  go_wp2_with fail
  go_loop [5, 10] (fun c i => ∃ k : Nat, k ≤ n ∧ i = .int .i64 k ∧ c = .int .i64 (bsS zs s k)) (fun _ i => n - (intOf i).toNat)
  case atStart => exact ⟨0, Nat.zero_le _, rfl, by rw [bsS_zero]⟩
  case round =>
    obtain ⟨k, hk, rfl, rfl⟩ := hrel
    obtain ⟨s1, s2⟩ := bsS_bd ho s hk
    by_cases hlt : k < n
    · have i1 : (0 : Int) ≤ (k : Int) := by omega
      have i2 : (k : Int) < (n : Int) := by omega
      have c1 := h.cell hlt
      obtain ⟨w1, w2⟩ := ho k hlt
      have hb := and_bt (k := k) hs
      cases hh : bt s k
      · rw [hh] at hb
        have hsucc := mkhid (bsS_no (zs := zs) hh)
        clear hh
        go_wp2
        go_round
        case rel => exact ⟨k + 1, by omega, by go_num, by rw [hsucc.out]⟩
        case measure => simp [intOf]; omega
      · rw [hh] at hb
        have hsucc := mkhid (bsS_yes (zs := zs) hh)
        clear hh
        go_wp2
        go_round
        case rel => exact ⟨k + 1, by omega, by go_num, by rw [hsucc.out]⟩
        case measure => simp [intOf]; omega
    · have hkn := mkhid (show k = n by omega)
      have hv := mkhid (show bsS zs s k = bsS zs s n by rw [hkn.out])
      go_wp2
      go_ret
      exact ⟨ret_int hv.out, rfl⟩
theorem div_two (s i : Nat) : s / 2 ^ i / 2 = s / 2 ^ (i + 1) := by rw [Nat.div_div_eq_div_mul, Nat.pow_succ]
theorem has_c (s i : Nat) (hs : s < 100000) (hi : i < 100000) (w : World) : Calls Try.prog 65 #[(.int .i64 ((s : Int))), (.int .i64 ((i : Int)))] w (Rs (.bool (bt s i)) w) := by
  go_enter Try.func65, Try.ntmps65
  go_wp2_with fail
  go_loop [0, 5] (fun c j => ∃ k : Nat, k ≤ i ∧ j = .int .i64 k ∧ c = .int .i64 ((s / 2 ^ k : Nat) : Int)) (fun _ j => i - (intOf j).toNat)
  case atStart => exact ⟨0, Nat.zero_le _, rfl, by simp⟩
  case round =>
    obtain ⟨k, hk, rfl, rfl⟩ := hrel
    have hle := Nat.div_le_self s (2 ^ k)
    obtain ⟨q, hq⟩ : ∃ q, q = s / 2 ^ k := ⟨_, rfl⟩
    have hd := mkhid (div_two s k)
    rw [← hq] at hle hd ⊢
    have HQ := mkhid hq
    clear hq
    by_cases hlt : k < i
    · have j1 : decide ((k : Int) < (i : Int)) = true := decide_eq_true (by omega)
      go_wp2
      go_round
      case rel => exact ⟨k + 1, by omega, by go_num, by rw [← hd.out]; simp⟩
      case measure => simp [intOf]; omega
    · have j1 : decide ((k : Int) < (i : Int)) = false := decide_eq_false (by omega)
      have hki := mkhid (show k = i by omega)
      have hbt := mkhid (show bt s i = decide (q % 2 = 1) by unfold bt; rw [HQ.out, hki.out])
      by_cases h2 : q % 2 = 1
      · have e1 : (((q : Int) % 2) == 1) = true := by simp; omega
        go_wp2
        go_ret
        exact ⟨ret_bool (by rw [hbt.out, decide_eq_true h2]), rfl⟩
      · have e1 : (((q : Int) % 2) == 1) = false := by simp; omega
        go_wp2
        go_ret
        exact ⟨ret_bool (by rw [hbt.out, decide_eq_false h2]), rfl⟩
theorem power_c (n : Nat) (hn : n ≤ 7) (w : World) : Calls Try.prog 70 #[(.int .i64 ((n : Int)))] w (Rs (.int .i64 (((2 ^ n : Nat) : Int))) w) := by
  go_enter Try.func70, Try.ntmps70
  go_wp2_with fail
  go_loop [3, 4] (fun c j => ∃ k : Nat, k ≤ n ∧ j = .int .i64 k ∧ c = .int .i64 ((2 ^ k : Nat) : Int)) (fun _ j => n - (intOf j).toNat)
  case atStart => exact ⟨0, Nat.zero_le _, rfl, by simp⟩
  case round =>
    obtain ⟨k, hk, rfl, rfl⟩ := hrel
    obtain ⟨p1, p2⟩ := pow_le7 k (by omega)
    have hs := mkhid (show 2 ^ (k + 1) = 2 * 2 ^ k by rw [Nat.pow_succ, Nat.mul_comm])
    obtain ⟨q, hq⟩ : ∃ q, q = 2 ^ k := ⟨_, rfl⟩
    rw [← hq] at p1 p2 hs ⊢
    have HQ := mkhid hq
    clear hq
    by_cases hlt : k < n
    · have j1 : decide ((k : Int) < (n : Int)) = true := decide_eq_true (by omega)
      go_wp2
      go_round
      case rel => exact ⟨k + 1, by omega, by go_num, by rw [hs.out]; simp⟩
      case measure => simp [intOf]; omega
    · have j1 : decide ((k : Int) < (n : Int)) = false := decide_eq_false (by omega)
      have hki := mkhid (show k = n by omega)
      go_wp2
      go_ret
      exact ⟨ret_int (by rw [HQ.out, hki.out]; simp), rfl⟩
end Go.Proofs.Ytimfabpigpcjhaa
