/- TurnPane (spec and impl) and its exact law's walk; no statement is proved here. -/
import Derived.Test.YtimfabpigpcjhaaPane
namespace Go.Proofs.Ytimfabpigpcjhaa
open Go.ChangeShapes Go.WideShapes Go.ChangeAt Go.RowKit
set_option linter.unusedVariables false
set_option linter.unusedSimpArgs false

def turnV (b h : Int) (t : Bool) (k : Int) : Value := match vPane b h k with
  | true => (.agg #[.int .i64 h, .int .i64 b, .bool t, .int .i64 k])
  | false => (.agg #[.int .i64 0, .int .i64 0, .bool false, .int .i64 0])
theorem impl_swapSides_c (b h : Int) (t : Bool) (k : Int) (w : World) : Calls Try.prog 50 #[(.agg #[.int .i64 b, .int .i64 h, .bool t, .int .i64 k])] w (Rt (.agg #[.int .i64 h, .int .i64 b, .bool t, .int .i64 k]) w) := by
  go_enter Try.func50, Try.ntmps50
  go_wp2
  refine bodyPost_ret (v := (.agg #[.int .i64 h, .int .i64 b, .bool t, .int .i64 k])) (by simp [results, Try.results50, go_sem, *]) rfl ⟨?_, ?_⟩
  · rfl
  · (repeat' (first | exact Below.refl _ _ | refine Below.alloc ?_ ?_ _ | refine Below.setCell ?_ ?_ _ | refine Below.drew ?_ | refine below_drewN ?_ _ | refine Below.trans ?_ (Below.mono (by assumption) ?_))) <;> (try first | omega | (simp; done) | (simp at *; omega))
theorem impl_TurnPane_c (b h : Int) (t : Bool) (k : Int) (w : World) : Calls Try.prog 17 #[(.agg #[.int .i64 b, .int .i64 h, .bool t, .int .i64 k])] w (Rt (turnV b h t k) w) := by
  cases hv : vPane b h k
  · have HI : Hid (turnV b h t k = (.agg #[.int .i64 0, .int .i64 0, .bool false, .int .i64 0])) := by show _ = _; unfold turnV; rw [hv]
    go_enter Try.func17, Try.ntmps17
    go_wp2_with (go_at_call 46; refine (impl_ValidPane_c _ _ _ _ _).mono ?_; rintro e w1 ⟨rfl, hb1⟩; obtain ⟨hc1, hf1, -, hz1⟩ := bcell hb1; (try simp at hz1); (try (have zw0 : w.heap.size < w1.heap.size := by omega)); (try (have zw1 : w.heap.size + 1 < w1.heap.size := by omega)); (try (have zw2 : w.heap.size + 1 + 1 < w1.heap.size := by omega)); (try (have zw3 : w.heap.size + 1 + 1 + 1 < w1.heap.size := by omega)); (try (have zw4 : w.heap.size + 1 + 1 + 1 + 1 < w1.heap.size := by omega)); (try (have zw5 : w.heap.size + 1 + 1 + 1 + 1 + 1 < w1.heap.size := by omega)))
    rw [HI.out]
    refine bodyPost_ret (v := (.agg #[.int .i64 0, .int .i64 0, .bool false, .int .i64 0])) (by simp [results, Try.results17, go_sem, *]) rfl ⟨?_, ?_⟩
    · rfl
    · (repeat' (first | exact Below.refl _ _ | refine Below.alloc ?_ ?_ _ | refine Below.setCell ?_ ?_ _ | refine Below.drew ?_ | refine below_drewN ?_ _ | refine Below.trans ?_ (Below.mono (by assumption) ?_))) <;> (try first | omega | (simp; done) | (simp at *; omega))
  · have HI : Hid (turnV b h t k = (.agg #[.int .i64 h, .int .i64 b, .bool t, .int .i64 k])) := by show _ = _; unfold turnV; rw [hv]
    go_enter Try.func17, Try.ntmps17
    go_wp2_with (first | (go_at_call 46; refine (impl_ValidPane_c _ _ _ _ _).mono ?_; rintro e w1 ⟨rfl, hb1⟩; obtain ⟨hc1, hf1, -, hz1⟩ := bcell hb1; (try simp at hz1); (try (have zw0 : w.heap.size < w1.heap.size := by omega)); (try (have zw1 : w.heap.size + 1 < w1.heap.size := by omega)); (try (have zw2 : w.heap.size + 1 + 1 < w1.heap.size := by omega)); (try (have zw3 : w.heap.size + 1 + 1 + 1 < w1.heap.size := by omega)); (try (have zw4 : w.heap.size + 1 + 1 + 1 + 1 < w1.heap.size := by omega)); (try (have zw5 : w.heap.size + 1 + 1 + 1 + 1 + 1 < w1.heap.size := by omega))) | (go_at_call 50; refine (impl_swapSides_c _ _ _ _ _).mono ?_; rintro e w1 ⟨rfl, hb1⟩; obtain ⟨hc1, hf1, -, hz1⟩ := bcell hb1; (try simp at hz1); (try (have zw0 : w.heap.size < w1.heap.size := by omega)); (try (have zw1 : w.heap.size + 1 < w1.heap.size := by omega)); (try (have zw2 : w.heap.size + 1 + 1 < w1.heap.size := by omega)); (try (have zw3 : w.heap.size + 1 + 1 + 1 < w1.heap.size := by omega)); (try (have zw4 : w.heap.size + 1 + 1 + 1 + 1 < w1.heap.size := by omega)); (try (have zw5 : w.heap.size + 1 + 1 + 1 + 1 + 1 < w1.heap.size := by omega))))
    rw [HI.out]
    refine bodyPost_ret (v := (.agg #[.int .i64 h, .int .i64 b, .bool t, .int .i64 k])) (by simp [results, Try.results17, go_sem, *]) rfl ⟨?_, ?_⟩
    · rfl
    · (repeat' (first | exact Below.refl _ _ | refine Below.alloc ?_ ?_ _ | refine Below.setCell ?_ ?_ _ | refine Below.drew ?_ | refine below_drewN ?_ _ | refine Below.trans ?_ (Below.mono (by assumption) ?_))) <;> (try first | omega | (simp; done) | (simp at *; omega))
end Go.Proofs.Ytimfabpigpcjhaa
