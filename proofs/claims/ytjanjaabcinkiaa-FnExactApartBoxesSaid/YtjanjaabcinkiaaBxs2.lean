/- apart and ApartBoxes (spec and impl); no statement is proved here. -/
import Derived.Test.YtjanjaabcinkiaaBxs
namespace Go.Proofs.Ytjanjaabcinkiaa
open Go.ChangeShapes Go.WideShapes Go.ChangeAt Go.RowKit Go.Deep
set_option linter.unusedVariables false
set_option linter.unusedSimpArgs false

/-- box i has nothing in common with box j -/
def apJ (a0 a1 a2 a3 : Nat → Int) (i j : Nat) : Bool := !meets (a0 i) (a1 i) (a2 i) (a3 i) (a0 j) (a1 j) (a2 j) (a3 j)
def apI (a0 a1 a2 a3 : Nat → Int) (i : Nat) : Bool := allB (apJ a0 a1 a2 a3 i) i i
@[irreducible] def apartB (a0 a1 a2 a3 : Nat → Int) (n : Nat) : Bool := allB (apI a0 a1 a2 a3) n n
theorem apartB_bad {a0 a1 a2 a3 : Nat → Int} {n i j : Nat} (hi : i < n) (hj : j < i) (h : meets (a0 i) (a1 i) (a2 i) (a3 i) (a0 j) (a1 j) (a2 j) (a3 j) = true) : apartB a0 a1 a2 a3 n = false := by
  unfold apartB
  refine allB_bad hi (allB_bad hj ?_)
  unfold apJ; rw [h]; rfl
theorem apartB_yes {a0 a1 a2 a3 : Nat → Int} {n : Nat} (h : AllTo (apI a0 a1 a2 a3) n) : apartB a0 a1 a2 a3 n = true := by
  unfold apartB; exact allB_iff.2 ⟨Nat.le_refl _, h⟩
theorem apI_yes {a0 a1 a2 a3 : Nat → Int} {i : Nat} (h : AllTo (apJ a0 a1 a2 a3 i) i) : apI a0 a1 a2 a3 i = true := allB_iff.2 ⟨Nat.le_refl _, h⟩
@[irreducible] def vApart (a0 a1 a2 a3 : Nat → Int) (n : Nat) : Bool := allB (bxOk a0 a1 a2 a3) 24 n && apartB a0 a1 a2 a3 n
theorem vApart_no {a0 a1 a2 a3 : Nat → Int} {n : Nat} (h : allB (bxOk a0 a1 a2 a3) 24 n = false) : vApart a0 a1 a2 a3 n = false := by unfold vApart; rw [h]; rfl
theorem vApart_yes {a0 a1 a2 a3 : Nat → Int} {n : Nat} (h : allB (bxOk a0 a1 a2 a3) 24 n = true) : vApart a0 a1 a2 a3 n = apartB a0 a1 a2 a3 n := by unfold vApart; rw [h]; rfl

set_option maxHeartbeats 1600000 in
theorem spec_apart_s {b off n cap : Nat} {a0 a1 a2 a3 : Nat → Int} {w : World} (h : RSl w b off n cap 4 (boxF a0 a1 a2 a3)) (HV : Hid (AllTo (bxOk a0 a1 a2 a3) n)) :
    Calls Try.prog 68 #[.slice (some ⟨b, off, none⟩) n cap] w (Rt (.bool (apartB a0 a1 a2 a3 n)) w) := by
  have hsm := h.small
  go_enter Try.func68, Try.ntmps68
  go_wp2_with fail
  go_loopw [3] (fun i wr => ∃ k : Nat, k ≤ n ∧ i = .int .i64 k ∧ Hid (AllTo (apI a0 a1 a2 a3) k) ∧ Below w.heap.size w wr) (fun i _ => n - (intOf i).toNat)
  case atStart => exact ⟨0, Nat.zero_le _, rfl, AllTo.zero _, Below.refl _ _⟩
  case round =>
    obtain ⟨k, hk, rfl, HB, hbr⟩ := hrel
    have hsz := hbr.size
    by_cases hlt : k < n
    · have i1 : (0 : Int) ≤ (k : Int) := by omega
      have i2 : (k : Int) < (n : Int) := by omega
      obtain ⟨wo, hwo⟩ : ∃ wo : World, Hid (wo = wr) := ⟨_, rfl⟩
      go_wp2_with fail
      go_loopw [4] (fun i wr => ∃ j : Nat, j ≤ k ∧ i = .int .i64 j ∧ Hid (AllTo (apJ a0 a1 a2 a3 k) j) ∧ Below w.heap.size w wr) (fun i _ => k - (intOf i).toNat)
      case atStart => exact ⟨0, Nat.zero_le _, rfl, AllTo.zero _, hbr⟩
      case round =>
        obtain ⟨j, hj, rfl, HJ, hbj⟩ := hrel
        have hsj := hbj.size
        clear hbr hsz
        by_cases hjk : j < k
        · have j1 : (0 : Int) ≤ (j : Int) := by omega
          have j2 : (j : Int) < (n : Int) := by omega
          have j3 : decide ((j : Int) < (k : Int)) = true := decide_eq_true (by omega)
          have hlb := (h.below hbj).lt
          have hlb1 : ¬ (b = wr.heap.size) := by omega
          have hlb2 : ¬ (wr.heap.size = b) := by omega
          obtain ⟨c0, c1, c2, c3⟩ := box_cells (h.below hbj) hlt
          obtain ⟨e0, e1, e2, e3⟩ := box_cells (h.below hbj) (show j < n by omega)
          have hvk : vBox (a0 k) (a1 k) (a2 k) (a3 k) = true := HV.out k hlt
          have hvj : vBox (a0 j) (a1 j) (a2 j) (a3 j) = true := HV.out j (by omega)
          have HC := fun W => spec_meetOf_c (a0 k) (a1 k) (a2 k) (a3 k) (a0 j) (a1 j) (a2 j) (a3 j) W hvk hvj
          clear hvk hvj
          cases hm : meets (a0 k) (a1 k) (a2 k) (a3 k) (a0 j) (a1 j) (a2 j) (a3 j)
          · have hok := mkhid (HJ.out.succ (show apJ a0 a1 a2 a3 k j = true by unfold apJ; rw [hm]; rfl))
            simp only [meetV, hm] at HC
            clear hm
            go_wp2_with fail
            go_region_with (first | (go_at_call 94; refine (HC _).mono ?_; rintro e w1 ⟨rfl, hb1⟩; obtain ⟨hc1, hf1, -, hz1⟩ := bcell hb1; (try simp at hz1); (try (have zwr0 : wr.heap.size < w1.heap.size := by omega)); (try (have zwr1 : wr.heap.size + 1 < w1.heap.size := by omega)); (try (have zwr2 : wr.heap.size + 1 + 1 < w1.heap.size := by omega))))
            all_goals go_wp2_with fail
            all_goals go_roundw
            case rel => exact ⟨j + 1, by omega, by go_num, hok, (by repeat' (first | with_reducible exact Below.refl _ _ | with_reducible refine Below.alloc ?_ (by first | omega | (simp; done) | (simp; omega)) _ | with_reducible refine Below.drew ?_ | with_reducible refine below_drewN ?_ _ | with_reducible refine Below.setCell ?_ (by first | omega | (simp; done) | (simp; omega)) _ | with_reducible refine Below.grown ?_ (by assumption) (by first | omega | (simp; done) | (simp; omega)) (by intro k hk; cases hk; omega) | with_reducible refine Below.trans ?_ (Below.mono (by assumption) (by first | omega | (simp; done) | (simp; omega)))))⟩
            all_goals (first | (simp [intOf]; omega) | exact ⟨j + 1, by omega, by go_num, hok, (by repeat' (first | with_reducible exact Below.refl _ _ | with_reducible refine Below.alloc ?_ (by first | omega | (simp; done) | (simp; omega)) _ | with_reducible refine Below.drew ?_ | with_reducible refine below_drewN ?_ _ | with_reducible refine Below.setCell ?_ (by first | omega | (simp; done) | (simp; omega)) _ | with_reducible refine Below.grown ?_ (by assumption) (by first | omega | (simp; done) | (simp; omega)) (by intro k hk; cases hk; omega) | with_reducible refine Below.trans ?_ (Below.mono (by assumption) (by first | omega | (simp; done) | (simp; omega)))))⟩ | trace_state)
          · have hg : Hid (apartB a0 a1 a2 a3 n = false) := apartB_bad hlt hjk hm
            simp only [meetV, hm] at HC
            clear hm
            go_wp2_with fail
            go_region_with (first | (go_at_call 94; refine (HC _).mono ?_; rintro e w1 ⟨rfl, hb1⟩; obtain ⟨hc1, hf1, -, hz1⟩ := bcell hb1; (try simp at hz1); (try (have zwr0 : wr.heap.size < w1.heap.size := by omega)); (try (have zwr1 : wr.heap.size + 1 < w1.heap.size := by omega)); (try (have zwr2 : wr.heap.size + 1 + 1 < w1.heap.size := by omega))))
            all_goals go_wp2_with fail
            all_goals go_ret
            all_goals exact ⟨ret_bool hg.out.symm, (by repeat' (first | with_reducible exact Below.refl _ _ | with_reducible refine Below.alloc ?_ (by first | omega | (simp; done) | (simp; omega)) _ | with_reducible refine Below.drew ?_ | with_reducible refine below_drewN ?_ _ | with_reducible refine Below.setCell ?_ (by first | omega | (simp; done) | (simp; omega)) _ | with_reducible refine Below.grown ?_ (by assumption) (by first | omega | (simp; done) | (simp; omega)) (by intro k hk; cases hk; omega) | with_reducible refine Below.trans ?_ (Below.mono (by assumption) (by first | omega | (simp; done) | (simp; omega)))))⟩
        · have hjk' := mkhid (show j = k by omega)
          have hok := mkhid (HB.out.succ (apI_yes (hjk'.out ▸ HJ.out)))
          go_wp2_with fail
          go_roundw
          case rel => exact ⟨k + 1, by omega, by go_num, hok, hbj⟩
          case measure => simp [intOf]; omega
    · have hkn := mkhid (show k = n by omega)
      have hg : Hid (apartB a0 a1 a2 a3 n = true) := apartB_yes (hkn.out ▸ HB.out)
      go_wp2
      go_ret
      exact ⟨ret_bool hg.out.symm, hbr⟩
theorem spec_ApartBoxes_s {b off n cap : Nat} {a0 a1 a2 a3 : Nat → Int} {w : World} (h : RSl w b off n cap 4 (boxF a0 a1 a2 a3)) :
    Calls Try.prog 34 #[.slice (some ⟨b, off, none⟩) n cap] w (Rt (.bool (vApart a0 a1 a2 a3 n)) w) := by
  have C1 := fun W (hW : RSl W b off n cap 4 (boxF a0 a1 a2 a3)) => spec_validBoxes_s hW
  cases hv : allB (bxOk a0 a1 a2 a3) 24 n
  · have hg : Hid (vApart a0 a1 a2 a3 n = false) := vApart_no hv
    rw [hv] at C1
    go_enter Try.func34, Try.ntmps34
    go_wp2_with fail
    go_at_call 67
    refine (C1 _ h).mono ?_
    rintro e w1 ⟨rfl, hb1⟩
    obtain ⟨hc1, hf1, -, hz1⟩ := bcell hb1
    (try simp at hz1)
    (try (have y1 : w.heap.size ≤ w1.heap.size := by omega))
    (try (have z1_0_0 : w.heap.size < w1.heap.size := by omega))
    (try (have z1_0_1 : w.heap.size + 1 < w1.heap.size := by omega))
    (try (have z1_0_2 : w.heap.size + 1 + 1 < w1.heap.size := by omega))
    (try (have z1_0_3 : w.heap.size + 1 + 1 + 1 < w1.heap.size := by omega))
    go_wp2_with fail
    go_ret
    exact ⟨ret_bool hg.out.symm, (by repeat' (first | with_reducible exact Below.refl _ _ | with_reducible refine Below.alloc ?_ (by first | omega | (simp; done) | (simp; omega)) _ | with_reducible refine Below.drew ?_ | with_reducible refine below_drewN ?_ _ | with_reducible refine Below.setCell ?_ (by first | omega | (simp; done) | (simp; omega)) _ | with_reducible refine Below.grown ?_ (by assumption) (by first | omega | (simp; done) | (simp; omega)) (by intro k hk; cases hk; omega) | with_reducible refine Below.trans ?_ (Below.mono (by assumption) (by first | omega | (simp; done) | (simp; omega)))))⟩
  · have hg : Hid (vApart a0 a1 a2 a3 n = apartB a0 a1 a2 a3 n) := vApart_yes hv
    have hall := mkhid (allB_iff.1 hv).2
    rw [hv] at C1
    rw [hg.out]
    go_enter Try.func34, Try.ntmps34
    go_wp2_with fail
    go_at_call 67
    refine (C1 _ h).mono ?_
    rintro e w1 ⟨rfl, hb1⟩
    obtain ⟨hc1, hf1, -, hz1⟩ := bcell hb1
    (try simp at hz1)
    (try (have y1 : w.heap.size ≤ w1.heap.size := by omega))
    (try (have z1_0_0 : w.heap.size < w1.heap.size := by omega))
    (try (have z1_0_1 : w.heap.size + 1 < w1.heap.size := by omega))
    (try (have z1_0_2 : w.heap.size + 1 + 1 < w1.heap.size := by omega))
    (try (have z1_0_3 : w.heap.size + 1 + 1 + 1 < w1.heap.size := by omega))
    go_wp2_with fail
    go_at_call 68
    refine (spec_apart_s (h.below hb1) hall).mono ?_
    rintro e w2 ⟨rfl, hb2⟩
    obtain ⟨hc2, hf2, -, hz2⟩ := bcell hb2
    (try simp at hz2)
    (try (have y2 : w.heap.size ≤ w2.heap.size := by omega))
    (try (have z2_0_0 : w.heap.size < w2.heap.size := by omega))
    (try (have z2_0_1 : w.heap.size + 1 < w2.heap.size := by omega))
    (try (have z2_0_2 : w.heap.size + 1 + 1 < w2.heap.size := by omega))
    (try (have z2_0_3 : w.heap.size + 1 + 1 + 1 < w2.heap.size := by omega))
    (try (have z2_1_0 : w1.heap.size < w2.heap.size := by omega))
    (try (have z2_1_1 : w1.heap.size + 1 < w2.heap.size := by omega))
    go_wp2_with fail
    go_ret
    exact ⟨rfl, (by repeat' (first | with_reducible exact Below.refl _ _ | with_reducible refine Below.alloc ?_ (by first | omega | (simp; done) | (simp; omega)) _ | with_reducible refine Below.drew ?_ | with_reducible refine below_drewN ?_ _ | with_reducible refine Below.setCell ?_ (by first | omega | (simp; done) | (simp; omega)) _ | with_reducible refine Below.grown ?_ (by assumption) (by first | omega | (simp; done) | (simp; omega)) (by intro k hk; cases hk; omega) | with_reducible refine Below.trans ?_ (Below.mono (by assumption) (by first | omega | (simp; done) | (simp; omega)))))⟩
end Go.Proofs.Ytjanjaabcinkiaa
