/- eqPane, eqBox of the laws; no statement is proved here. -/
import Derived.Test.YtimfabpigpcjhaaBase
namespace Go.Proofs.Ytimfabpigpcjhaa
open Go.ChangeShapes Go.WideShapes Go.ChangeAt Go.RowKit
set_option linter.unusedVariables false
set_option linter.unusedSimpArgs false

theorem bl_at {W w1 : World} {b : Nat} (h : Below W.heap.size W w1) (hb : b < W.heap.size) : (∀ o, w1.cell? ⟨b, o, none⟩ = W.cell? ⟨b, o, none⟩) ∧ (∀ o, w1.frozen? ⟨b, o, none⟩ = W.frozen? ⟨b, o, none⟩) :=
  ⟨fun o => h.cell (p := ⟨b, o, none⟩) hb, fun o => h.frozen (p := ⟨b, o, none⟩) hb⟩
theorem drew_size (w : World) : w.drew.heap.size = w.heap.size := rfl
theorem drewN_size (w : World) (n : Nat) : (w.drewN n).heap.size = w.heap.size := rfl
theorem eqBox_c (a b c d : Int) (w : World) : Calls Try.prog 13 #[(.agg #[.int .i64 a, .int .i64 b, .int .i64 c, .int .i64 d]), (.agg #[.int .i64 a, .int .i64 b, .int .i64 c, .int .i64 d])] w (Rt (.bool true) w) := by
  go_enter Try.func13, Try.ntmps13
  go_wp2
  go_ret
  refine ⟨rfl, ?_⟩
  (repeat' (first | exact Below.refl _ _ | refine Below.alloc ?_ ?_ _ | refine Below.setCell ?_ ?_ _ | refine Below.drew ?_ | refine below_drewN ?_ _ | refine Below.trans ?_ (Below.mono (by assumption) ?_))) <;> (try first | omega | (simp; done) | (simp at *; omega))
end Go.Proofs.Ytimfabpigpcjhaa
