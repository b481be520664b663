/- The laws' helpers on slices of jobs: toJobS, szJobS, eqJobS; no statement is proved here. -/
import Derived.Test.YtglglgfiifjejaaJobs
namespace Go.Proofs.Ytglglgfiifjejaa
open Go.ChangeShapes Go.WideShapes Go.ChangeAt Go.RowKit
set_option linter.unusedVariables false
set_option linter.unusedSimpArgs false

theorem szJobS_c (p : Option Addr) (n cap : Nat) (left : Int) (w : World) (hn : n ≤ maxLen) (hl : 0 ≤ left ∧ left ≤ 2000000) : Calls Try.prog 26 #[.slice p n cap, (.int .i64 left)] w (Rs (.int .i64 (if (n : Int) ≤ left then left - n else -1)) w) := by
  have hm := hn
  unfold maxLen at hm
  obtain ⟨hl1, hl2⟩ := hl
  by_cases h : (n : Int) ≤ left
  · have d1 : decide (left - (n : Int) < 0) = false := decide_eq_false (by omega)
    rw [if_pos h]
    go_enter Try.func26, Try.ntmps26
    go_wp2
    go_ret
    exact ⟨rfl, rfl⟩
  · have d1 : decide (left - (n : Int) < 0) = true := decide_eq_true (by omega)
    rw [if_neg h]
    go_enter Try.func26, Try.ntmps26
    go_wp2
    go_ret
    exact ⟨rfl, rfl⟩
theorem toJob_c (x y : Int) (w : World) : Calls Try.prog 69 #[(.agg #[.int .i64 x, .int .i64 y])] w (Rt (.agg #[.int .i64 x, .int .i64 y]) w) := by
  go_enter Try.func69, Try.ntmps69
  go_wp2
  refine bodyPost_ret (v := (.agg #[.int .i64 x, .int .i64 y])) (by simp [results, Try.results69, go_sem, *]) rfl ⟨?_, ?_⟩
  · rfl
  · (repeat' (first | exact Below.refl _ _ | refine Below.alloc ?_ ?_ _ | refine Below.setCell ?_ ?_ _ | refine Below.drew ?_ | refine below_drewN ?_ _ | refine Below.trans ?_ (Below.mono (by assumption) ?_))) <;> (try first | omega | (simp; done) | (simp at *; omega))
theorem eqJob_c (x y x' y' : Int) (w : World) : Calls Try.prog 71 #[(.agg #[.int .i64 x, .int .i64 y]), (.agg #[.int .i64 x', .int .i64 y'])] w (Rt (.bool (decide (x = x' ∧ y = y'))) w) := by
  by_cases h1 : x = x'
  · by_cases h2 : y = y'
    · have d1 : (x != x') = false := by simpa using h1
      have d2 : (y != y') = false := by simpa using h2
      rw [decide_eq_true ⟨h1, h2⟩]
      clear h1 h2
      go_enter Try.func71, Try.ntmps71
      go_wp2
      go_ret
      exact ⟨rfl, (by repeat' (first | with_reducible exact Below.refl _ _ | with_reducible refine Below.alloc ?_ (by first | omega | (simp; done) | (simp; omega)) _ | with_reducible refine Below.drew ?_ | with_reducible refine below_drewN ?_ _ | with_reducible refine Below.setCell ?_ (by first | omega | (simp; done) | (simp; omega)) _ | with_reducible refine Below.grown ?_ (by assumption) (by first | omega | (simp; done) | (simp; omega)) (by intro k hk; cases hk; omega) | with_reducible refine Below.trans ?_ (Below.mono (by assumption) (by first | omega | (simp; done) | (simp; omega)))))⟩
    · have d1 : (x != x') = false := by simpa using h1
      have d2 : (y != y') = true := by simpa using h2
      rw [decide_eq_false (fun hh => h2 hh.2)]
      clear h1 h2
      go_enter Try.func71, Try.ntmps71
      go_wp2
      go_ret
      exact ⟨rfl, (by repeat' (first | with_reducible exact Below.refl _ _ | with_reducible refine Below.alloc ?_ (by first | omega | (simp; done) | (simp; omega)) _ | with_reducible refine Below.drew ?_ | with_reducible refine below_drewN ?_ _ | with_reducible refine Below.setCell ?_ (by first | omega | (simp; done) | (simp; omega)) _ | with_reducible refine Below.grown ?_ (by assumption) (by first | omega | (simp; done) | (simp; omega)) (by intro k hk; cases hk; omega) | with_reducible refine Below.trans ?_ (Below.mono (by assumption) (by first | omega | (simp; done) | (simp; omega)))))⟩
  · have d1 : (x != x') = true := by simpa using h1
    rw [decide_eq_false (fun hh => h1 hh.1)]
    clear h1
    go_enter Try.func71, Try.ntmps71
    go_wp2
    go_ret
    exact ⟨rfl, (by repeat' (first | with_reducible exact Below.refl _ _ | with_reducible refine Below.alloc ?_ (by first | omega | (simp; done) | (simp; omega)) _ | with_reducible refine Below.drew ?_ | with_reducible refine below_drewN ?_ _ | with_reducible refine Below.setCell ?_ (by first | omega | (simp; done) | (simp; omega)) _ | with_reducible refine Below.grown ?_ (by assumption) (by first | omega | (simp; done) | (simp; omega)) (by intro k hk; cases hk; omega) | with_reducible refine Below.trans ?_ (Below.mono (by assumption) (by first | omega | (simp; done) | (simp; omega)))))⟩
end Go.Proofs.Ytglglgfiifjejaa
