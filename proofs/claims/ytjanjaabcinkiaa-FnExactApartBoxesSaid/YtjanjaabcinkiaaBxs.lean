/- Lists of boxes: validBoxes, apart, ApartBoxes (spec and impl), and the walk of the exact law on ApartBoxes; no statement is proved here. -/
import Derived.Test.YtjanjaabcinkiaaBoxS
import Derived.Test.YtjanjaabcinkiaaMeet
namespace Go.Proofs.Ytjanjaabcinkiaa
open Go.ChangeShapes Go.WideShapes Go.ChangeAt Go.RowKit Go.Deep
set_option linter.unusedVariables false
set_option linter.unusedSimpArgs false

def bxOk (a0 a1 a2 a3 : Nat → Int) (i : Nat) : Bool := vBox (a0 i) (a1 i) (a2 i) (a3 i)
theorem spec_validBoxes_s {b off n cap : Nat} {a0 a1 a2 a3 : Nat → Int} {w : World} (h : RSl w b off n cap 4 (boxF a0 a1 a2 a3)) :
    Calls Try.prog 67 #[.slice (some ⟨b, off, none⟩) n cap] w (Rt (.bool (allB (bxOk a0 a1 a2 a3) 24 n)) w) := by
  have hsm := h.small
  go_enter Try.func67, Try.ntmps67
  go_wp2_with fail
  go_loopw [3] (fun i wr => ∃ k : Nat, k ≤ n ∧ i = .int .i64 k ∧ Hid (AllTo (bxOk a0 a1 a2 a3) k) ∧ Below w.heap.size w wr) (fun i _ => n - (intOf i).toNat)
  case atStart => exact ⟨0, Nat.zero_le _, rfl, AllTo.zero _, Below.refl _ _⟩
  case round =>
    obtain ⟨k, hk, rfl, HB, hbr⟩ := hrel
    have hsz := hbr.size
    by_cases hlt : k < n
    · have i1 : (0 : Int) ≤ (k : Int) := by omega
      have i2 : (k : Int) < (n : Int) := by omega
      obtain ⟨c0, c1, c2, c3⟩ := box_cells (h.below hbr) hlt
      cases hv : vBox (a0 k) (a1 k) (a2 k) (a3 k)
      · have hg : Hid (allB (bxOk a0 a1 a2 a3) 24 n = false) := allB_bad hlt hv
        go_wp2_with fail
        go_at_call 93
        refine (spec_validBox_c _ _ _ _ _).mono ?_
        rintro e w1 ⟨rfl, hb1⟩
        rw [hv]
        go_wp2_with fail
        go_ret
        exact ⟨ret_bool hg.out.symm, (by repeat' (first | with_reducible exact Below.refl _ _ | with_reducible refine Below.alloc ?_ (by first | omega | (simp; done) | (simp; omega)) _ | with_reducible refine Below.drew ?_ | with_reducible refine below_drewN ?_ _ | with_reducible refine Below.setCell ?_ (by first | omega | (simp; done) | (simp; omega)) _ | with_reducible refine Below.grown ?_ (by assumption) (by first | omega | (simp; done) | (simp; omega)) (by intro k hk; cases hk; omega) | with_reducible refine Below.trans ?_ (Below.mono (by assumption) (by first | omega | (simp; done) | (simp; omega)))))⟩
      · have hok := mkhid (HB.out.succ hv)
        go_wp2_with fail
        go_at_call 93
        refine (spec_validBox_c _ _ _ _ _).mono ?_
        rintro e w1 ⟨rfl, hb1⟩
        rw [hv]
        go_wp2_with fail
        go_roundw
        case rel => exact ⟨k + 1, by omega, by go_num, hok, (by repeat' (first | with_reducible exact Below.refl _ _ | with_reducible refine Below.alloc ?_ (by first | omega | (simp; done) | (simp; omega)) _ | with_reducible refine Below.drew ?_ | with_reducible refine below_drewN ?_ _ | with_reducible refine Below.setCell ?_ (by first | omega | (simp; done) | (simp; omega)) _ | with_reducible refine Below.grown ?_ (by assumption) (by first | omega | (simp; done) | (simp; omega)) (by intro k hk; cases hk; omega) | with_reducible refine Below.trans ?_ (Below.mono (by assumption) (by first | omega | (simp; done) | (simp; omega)))))⟩
        case measure => simp [intOf]; omega
    · have hkn := mkhid (show k = n by omega)
      by_cases q : n ≤ 24
      · have d1 : decide ((n : Int) ≤ 24) = true := decide_eq_true (by omega)
        have hg : Hid (allB (bxOk a0 a1 a2 a3) 24 n = true) := allB_iff.2 ⟨q, hkn.out ▸ HB.out⟩
        go_wp2
        go_ret
        exact ⟨ret_bool hg.out.symm, hbr⟩
      · have d1 : decide ((n : Int) ≤ 24) = false := decide_eq_false (by omega)
        have hg : Hid (allB (bxOk a0 a1 a2 a3) 24 n = false) := allB_many q
        go_wp2
        go_ret
        exact ⟨ret_bool hg.out.symm, hbr⟩
theorem impl_validBoxes_s {b off n cap : Nat} {a0 a1 a2 a3 : Nat → Int} {w : World} (h : RSl w b off n cap 4 (boxF a0 a1 a2 a3)) :
    Calls Try.prog 70 #[.slice (some ⟨b, off, none⟩) n cap] w (Rt (.bool (allB (bxOk a0 a1 a2 a3) 24 n)) w) := by
  have hsm := h.small
  by_cases q : n ≤ 24
  · have d1 : decide ((24 : Int) < (n : Int)) = false := decide_eq_false (by omega)
    go_enter Try.func70, Try.ntmps70
    go_wp2_with fail
    go_loopw [10] (fun i wr => ∃ k : Nat, k ≤ n ∧ i = .int .i64 k ∧ Hid (AllTo (bxOk a0 a1 a2 a3) k) ∧ Below w.heap.size w wr) (fun i _ => n - (intOf i).toNat)
    case atStart => exact ⟨0, Nat.zero_le _, rfl, AllTo.zero _, Below.refl _ _⟩
    case round =>
      obtain ⟨k, hk, rfl, HB, hbr⟩ := hrel
      have hsz := hbr.size
      by_cases hlt : k < n
      · have i1 : (0 : Int) ≤ (k : Int) := by omega
        have i2 : (k : Int) < (n : Int) := by omega
        obtain ⟨c0, c1, c2, c3⟩ := box_cells (h.below hbr) hlt
        cases hv : vBox (a0 k) (a1 k) (a2 k) (a3 k)
        · have hg : Hid (allB (bxOk a0 a1 a2 a3) 24 n = false) := allB_bad hlt hv
          go_wp2_with fail
          go_at_call 76
          refine (impl_ValidBox_c _ _ _ _ _).mono ?_
          rintro e w1 ⟨rfl, hb1⟩
          rw [hv]
          go_wp2_with fail
          go_ret
          exact ⟨ret_bool hg.out.symm, (by repeat' (first | with_reducible exact Below.refl _ _ | with_reducible refine Below.alloc ?_ (by first | omega | (simp; done) | (simp; omega)) _ | with_reducible refine Below.drew ?_ | with_reducible refine below_drewN ?_ _ | with_reducible refine Below.setCell ?_ (by first | omega | (simp; done) | (simp; omega)) _ | with_reducible refine Below.grown ?_ (by assumption) (by first | omega | (simp; done) | (simp; omega)) (by intro k hk; cases hk; omega) | with_reducible refine Below.trans ?_ (Below.mono (by assumption) (by first | omega | (simp; done) | (simp; omega)))))⟩
        · have hok := mkhid (HB.out.succ hv)
          go_wp2_with fail
          go_at_call 76
          refine (impl_ValidBox_c _ _ _ _ _).mono ?_
          rintro e w1 ⟨rfl, hb1⟩
          rw [hv]
          go_wp2_with fail
          go_roundw
          case rel => exact ⟨k + 1, by omega, by go_num, hok, (by repeat' (first | with_reducible exact Below.refl _ _ | with_reducible refine Below.alloc ?_ (by first | omega | (simp; done) | (simp; omega)) _ | with_reducible refine Below.drew ?_ | with_reducible refine below_drewN ?_ _ | with_reducible refine Below.setCell ?_ (by first | omega | (simp; done) | (simp; omega)) _ | with_reducible refine Below.grown ?_ (by assumption) (by first | omega | (simp; done) | (simp; omega)) (by intro k hk; cases hk; omega) | with_reducible refine Below.trans ?_ (Below.mono (by assumption) (by first | omega | (simp; done) | (simp; omega)))))⟩
          case measure => simp [intOf]; omega
      · have hkn := mkhid (show k = n by omega)
        have hg : Hid (allB (bxOk a0 a1 a2 a3) 24 n = true) := allB_iff.2 ⟨q, hkn.out ▸ HB.out⟩
        go_wp2
        go_ret
        exact ⟨ret_bool hg.out.symm, hbr⟩
  · have d1 : decide ((24 : Int) < (n : Int)) = true := decide_eq_true (by omega)
    have hg : Hid (allB (bxOk a0 a1 a2 a3) 24 n = false) := allB_many q
    go_enter Try.func70, Try.ntmps70
    go_wp2_with fail
    go_ret
    exact ⟨ret_bool hg.out.symm, Below.refl _ _⟩
end Go.Proofs.Ytjanjaabcinkiaa
