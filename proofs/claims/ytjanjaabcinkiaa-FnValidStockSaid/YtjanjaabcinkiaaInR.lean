/- inRange of spec; no statement is proved here. -/
import Derived.Test.YtjanjaabcinkiaaBase
namespace Go.Proofs.Ytjanjaabcinkiaa
open Go.ChangeShapes Go.WideShapes Go.ChangeAt Go.RowKit
set_option linter.unusedVariables false
set_option linter.unusedSimpArgs false

@[irreducible] def inR (n lo hi : Int) : Bool := decide (lo ≤ n ∧ n ≤ hi)
theorem inR_yes {n lo hi : Int} (h : lo ≤ n ∧ n ≤ hi) : inR n lo hi = true := by unfold inR; simpa using h
theorem inR_no {n lo hi : Int} (h : ¬ (lo ≤ n ∧ n ≤ hi)) : inR n lo hi = false := by unfold inR; simpa using h
/-- a call that leaves the world alone, as the quiet walk wants it -/
def Rq (v : Value) (w : World) : Ending → World → Prop := fun e w' => e = .returned v ∧ w' = w
theorem inRange_c (n lo hi : Int) (w : World) : Calls Try.prog 86 #[(.int .i64 n), (.int .i64 lo), (.int .i64 hi)] w (Rs (.bool (inR n lo hi)) w) := by
  by_cases h1 : lo ≤ n
  · by_cases h2 : n ≤ hi
    · have HI : Hid (inR n lo hi = true) := inR_yes ⟨h1, h2⟩
      go_enter Try.func86, Try.ntmps86
      go_wp2
      go_ret
      exact ⟨ret_bool HI.out.symm, rfl⟩
    · have HI : Hid (inR n lo hi = false) := inR_no (by omega)
      go_enter Try.func86, Try.ntmps86
      go_wp2
      go_ret
      exact ⟨ret_bool HI.out.symm, rfl⟩
  · have HI : Hid (inR n lo hi = false) := inR_no (by omega)
    go_enter Try.func86, Try.ntmps86
    go_wp2
    go_ret
    exact ⟨ret_bool HI.out.symm, rfl⟩
end Go.Proofs.Ytjanjaabcinkiaa
