/- validOrder of spec, ValidOrder of impl; no statement is proved here. -/
import Derived.Test.YtjanjaabcinkiaaOrd
namespace Go.Proofs.Ytjanjaabcinkiaa
open Go.ChangeShapes Go.WideShapes Go.ChangeAt Go.RowKit Go.Deep
set_option linter.unusedVariables false
set_option linter.unusedSimpArgs false

set_option maxHeartbeats 1600000 in
theorem spec_validOrder_s {b off n cap : Nat} {a0 a1 : Nat → Int} {a2 : Nat → Bool} {a3 a4 : Nat → Int} {w : World} (h : RSl w b off n cap 5 (lineF a0 a1 a2 a3 a4)) :
    Calls Try.prog 63 #[.slice (some ⟨b, off, none⟩) n cap] w (Rt (.bool (vOrd a0 a1 a2 a3 a4 n)) w) := by
  have hsm := h.small
  go_enter Try.func63, Try.ntmps63
  go_wp2_with fail
  go_loopw [3, 4] (fun s i wr => ∃ k : Nat, k ≤ n ∧ i = .int .i64 k ∧ s = .int .i64 (ctS a4 k) ∧ Hid (AllTo (lnOk a0 a1 a2 a3 a4) k) ∧ Below w.heap.size w wr) (fun _ i _ => n - (intOf i).toNat)
  case atStart => exact ⟨0, Nat.zero_le _, rfl, by rw [ctS_zero], AllTo.zero _, Below.refl _ _⟩
  case round =>
    obtain ⟨k, hk, rfl, rfl, HB, hbr⟩ := hrel
    have hsz := hbr.size
    obtain ⟨s1, s2⟩ := ctS_bd HB.out (Nat.le_refl k)
    by_cases hlt : k < n
    · have i1 : (0 : Int) ≤ (k : Int) := by omega
      have i2 : (k : Int) < (n : Int) := by omega
      have hbl : b < wr.heap.size := (h.below hbr).lt
      obtain ⟨c0, c1, c2, c3, c4⟩ := line_cells (h.below hbr) hlt
      have CV := spec_validPane_c (a0 k) (a1 k) (a2 k) (a3 k) wr
      cases hv : vPane (a0 k) (a1 k) (a3 k)
      · have hg : Hid (vOrd a0 a1 a2 a3 a4 n = false) := vOrd_bad hlt (fun hh => by rw [hv] at hh; exact absurd hh.1 (by decide))
        rw [hv] at CV
        clear hv
        go_wp2_with fail
        go_at_call 90
        refine CV.mono ?_
        rintro e w1 ⟨rfl, hb1⟩
        go_wp2_with fail
        go_ret
        exact ⟨ret_bool hg.out.symm, (by repeat' (first | with_reducible exact Below.refl _ _ | with_reducible refine Below.alloc ?_ (by first | omega | (simp; done) | (simp; omega)) _ | with_reducible refine Below.drew ?_ | with_reducible refine below_drewN ?_ _ | with_reducible refine Below.setCell ?_ (by first | omega | (simp; done) | (simp; omega)) _ | with_reducible refine Below.grown ?_ (by assumption) (by first | omega | (simp; done) | (simp; omega)) (by intro k hk; cases hk; omega) | with_reducible refine Below.trans ?_ (Below.mono (by assumption) (by first | omega | (simp; done) | (simp; omega)))))⟩
      · rw [hv] at CV
        have hvk := mkhid hv
        clear hv
        by_cases hc : 1 ≤ a4 k ∧ a4 k ≤ 24
        · have hin := inR_yes hc
          have hck := mkhid hc
          obtain ⟨hc1', hc2'⟩ := hc
          go_wp2_with fail
          go_at_call 90
          refine CV.mono ?_
          rintro e w1 ⟨rfl, hb1⟩
          have d4 := (hb1.cell (p := ⟨b, off + k * 5 + 4, none⟩) hbl).trans c4
          have hB1 : Below w.heap.size w w1 := hbr.trans (hb1.mono hsz)
          clear hb1 hbr c0 c1 c2 c3 c4 hsz CV
          go_wp2_with (go_at_call 86; refine (inRange_c _ _ _ _).mono ?_; rintro e w1 ⟨rfl, rfl⟩)
          go_loopw [5] (fun i wr => ∃ j : Nat, j ≤ k ∧ i = .int .i64 j ∧ Hid (AllTo (lnI a0 a1 a2 a3 k) j) ∧ Below w.heap.size w wr) (fun i _ => k - (intOf i).toNat)
          case atStart => exact ⟨0, Nat.zero_le _, rfl, AllTo.zero _, hB1⟩
          case round =>
            obtain ⟨j, hj, rfl, HJ, hbj⟩ := hrel
            clear hB1 d4
            by_cases hjk : j < k
            · have j1 : (0 : Int) ≤ (j : Int) := by omega
              have j2 : (j : Int) < (n : Int) := by omega
              have j3 : decide ((j : Int) < (k : Int)) = true := decide_eq_true (by omega)
              obtain ⟨c0, c1, c2, c3, c4⟩ := line_cells (h.below hbj) hlt
              obtain ⟨e0, e1, e2, e3, e4⟩ := line_cells (h.below hbj) (show j < n by omega)
              clear c4 e4
              cases hs : samP (a0 j) (a1 j) (a2 j) (a3 j) (a0 k) (a1 k) (a2 k) (a3 k)
              · have hok := mkhid (HJ.out.succ (show lnI a0 a1 a2 a3 k j = true by unfold lnI; rw [hs]; rfl))
                have hne := mkhid (samP_no.1 hs)
                clear hs
                obtain ⟨x0, hx0⟩ : ∃ x, x = a0 k := ⟨_, rfl⟩
                obtain ⟨x1, hx1⟩ : ∃ x, x = a1 k := ⟨_, rfl⟩
                obtain ⟨x2, hx2⟩ : ∃ x, x = a2 k := ⟨_, rfl⟩
                obtain ⟨x3, hx3⟩ : ∃ x, x = a3 k := ⟨_, rfl⟩
                obtain ⟨y0, hy0⟩ : ∃ x, x = a0 j := ⟨_, rfl⟩
                obtain ⟨y1, hy1⟩ : ∃ x, x = a1 j := ⟨_, rfl⟩
                obtain ⟨y2, hy2⟩ : ∃ x, x = a2 j := ⟨_, rfl⟩
                obtain ⟨y3, hy3⟩ : ∃ x, x = a3 j := ⟨_, rfl⟩
                rw [← hx0] at c0
                rw [← hx1] at c1
                rw [← hx2] at c2
                rw [← hx3] at c3
                rw [← hy0] at e0
                rw [← hy1] at e1
                rw [← hy2] at e2
                rw [← hy3] at e3
                rw [← hx0, ← hx1, ← hx2, ← hx3, ← hy0, ← hy1, ← hy2, ← hy3] at hne
                clear hx0 hx1 hx2 hx3 hy0 hy1 hy2 hy3
                have hcase : ¬ (y0 = x0) ∨ (y0 = x0 ∧ ¬ (y1 = x1)) ∨ (y0 = x0 ∧ y1 = x1 ∧ ¬ (y2 = x2)) ∨ (y0 = x0 ∧ y1 = x1 ∧ y2 = x2 ∧ ¬ (y3 = x3)) := by
                  have := hne.out
                  by_cases z0 : y0 = x0 <;> by_cases z1 : y1 = x1 <;> by_cases z2 : y2 = x2 <;> by_cases z3 : y3 = x3 <;> simp_all
                clear hne
                rcases hcase with z0 | ⟨rfl, z1⟩ | ⟨rfl, rfl, z2⟩ | ⟨rfl, rfl, rfl, z3⟩
                all_goals go_wp2_with fail
                all_goals go_quiet (fail)
                all_goals go_wp2_with fail
                all_goals go_roundw
                all_goals (first | (simp [intOf]; omega) | exact ⟨j + 1, by omega, by go_num, hok, (by repeat' (first | with_reducible exact Below.refl _ _ | with_reducible refine Below.alloc ?_ (by first | omega | (simp; done) | (simp; omega)) _ | with_reducible refine Below.drew ?_ | with_reducible refine below_drewN ?_ _ | with_reducible refine Below.setCell ?_ (by first | omega | (simp; done) | (simp; omega)) _ | with_reducible refine Below.grown ?_ (by assumption) (by first | omega | (simp; done) | (simp; omega)) (by intro k hk; cases hk; omega) | with_reducible refine Below.trans ?_ (Below.mono (by assumption) (by first | omega | (simp; done) | (simp; omega)))))⟩)
              · have hg : Hid (vOrd a0 a1 a2 a3 a4 n = false) := vOrd_bad hlt (fun hh => lnI_bad hjk hs hh.2.2)
                obtain ⟨z0, z1, z2, z3⟩ := samP_iff.1 hs
                rw [z0] at e0
                rw [z1] at e1
                rw [z2] at e2
                rw [z3] at e3
                clear hs z0 z1 z2 z3
                go_wp2_with fail
                go_quiet (fail)
                go_wp2_with fail
                go_ret
                exact ⟨ret_bool hg.out.symm, (by repeat' (first | with_reducible exact Below.refl _ _ | with_reducible refine Below.alloc ?_ (by first | omega | (simp; done) | (simp; omega)) _ | with_reducible refine Below.drew ?_ | with_reducible refine below_drewN ?_ _ | with_reducible refine Below.setCell ?_ (by first | omega | (simp; done) | (simp; omega)) _ | with_reducible refine Below.grown ?_ (by assumption) (by first | omega | (simp; done) | (simp; omega)) (by intro k hk; cases hk; omega) | with_reducible refine Below.trans ?_ (Below.mono (by assumption) (by first | omega | (simp; done) | (simp; omega)))))⟩
            · have hjk' := mkhid (show j = k by omega)
              have hok := mkhid (HB.out.succ (lnOk_iff.2 ⟨hvk.out, hck.out, hjk'.out ▸ HJ.out⟩))
              obtain ⟨c0, c1, c2, c3, c4⟩ := line_cells (h.below hbj) hlt
              have hsucc := mkhid (ctS_succ a4 k)
              go_wp2_with fail
              go_roundw
              case rel => exact ⟨k + 1, by omega, by go_num, by rw [hsucc.out], hok, (by repeat' (first | with_reducible exact Below.refl _ _ | with_reducible refine Below.alloc ?_ (by first | omega | (simp; done) | (simp; omega)) _ | with_reducible refine Below.drew ?_ | with_reducible refine below_drewN ?_ _ | with_reducible refine Below.setCell ?_ (by first | omega | (simp; done) | (simp; omega)) _ | with_reducible refine Below.grown ?_ (by assumption) (by first | omega | (simp; done) | (simp; omega)) (by intro k hk; cases hk; omega) | with_reducible refine Below.trans ?_ (Below.mono (by assumption) (by first | omega | (simp; done) | (simp; omega)))))⟩
              case measure => simp [intOf]; omega
        · have hin := inR_no hc
          have hg : Hid (vOrd a0 a1 a2 a3 a4 n = false) := vOrd_bad hlt (fun hh => hc hh.2.1)
          clear hc
          go_wp2_with fail
          go_at_call 90
          refine CV.mono ?_
          rintro e w1 ⟨rfl, hb1⟩
          have d4 := (hb1.cell (p := ⟨b, off + k * 5 + 4, none⟩) hbl).trans c4
          go_wp2_with (go_at_call 86; refine (inRange_c _ _ _ _).mono ?_; rintro e w1 ⟨rfl, rfl⟩)
          go_ret
          exact ⟨ret_bool hg.out.symm, (by repeat' (first | with_reducible exact Below.refl _ _ | with_reducible refine Below.alloc ?_ (by first | omega | (simp; done) | (simp; omega)) _ | with_reducible refine Below.drew ?_ | with_reducible refine below_drewN ?_ _ | with_reducible refine Below.setCell ?_ (by first | omega | (simp; done) | (simp; omega)) _ | with_reducible refine Below.grown ?_ (by assumption) (by first | omega | (simp; done) | (simp; omega)) (by intro k hk; cases hk; omega) | with_reducible refine Below.trans ?_ (Below.mono (by assumption) (by first | omega | (simp; done) | (simp; omega)))))⟩
    · have hkn := mkhid (show k = n by omega)
      by_cases q : n ≤ 8
      · have d1 : decide ((n : Int) ≤ 8) = true := decide_eq_true (by omega)
        by_cases q2 : ctS a4 k ≤ 24
        · have d2 : decide (ctS a4 k ≤ 24) = true := decide_eq_true q2
          have hg : Hid (vOrd a0 a1 a2 a3 a4 n = true) := vOrd_iff.2 ⟨q, hkn.out ▸ HB.out, hkn.out ▸ q2⟩
          go_wp2
          go_ret
          exact ⟨ret_bool hg.out.symm, hbr⟩
        · have d2 : decide (ctS a4 k ≤ 24) = false := decide_eq_false q2
          have hg : Hid (vOrd a0 a1 a2 a3 a4 n = false) := vOrd_no (fun hh => q2 (hkn.out ▸ hh.2.2))
          go_wp2
          go_ret
          exact ⟨ret_bool hg.out.symm, hbr⟩
      · have d1 : decide ((n : Int) ≤ 8) = false := decide_eq_false (by omega)
        have hg : Hid (vOrd a0 a1 a2 a3 a4 n = false) := vOrd_no (fun hh => q hh.1)
        go_wp2
        go_ret
        exact ⟨ret_bool hg.out.symm, hbr⟩
theorem spec_ValidOrder_s {b off n cap : Nat} {a0 a1 : Nat → Int} {a2 : Nat → Bool} {a3 a4 : Nat → Int} {w : World} (h : RSl w b off n cap 5 (lineF a0 a1 a2 a3 a4)) :
    Calls Try.prog 27 #[.slice (some ⟨b, off, none⟩) n cap] w (Rt (.bool (vOrd a0 a1 a2 a3 a4 n)) w) := by
  go_enter Try.func27, Try.ntmps27
  go_wp2_with (go_at_call 63; refine (spec_validOrder_s h).mono ?_; rintro e w1 ⟨rfl, hb1⟩; obtain ⟨hc1, hf1, -, hz1⟩ := bcell hb1; (try simp at hz1); (try (have zw0 : w.heap.size < w1.heap.size := by omega)); (try (have zw1 : w.heap.size + 1 < w1.heap.size := by omega)); (try (have zw2 : w.heap.size + 1 + 1 < w1.heap.size := by omega)); (try (have zw3 : w.heap.size + 1 + 1 + 1 < w1.heap.size := by omega)); (try (have zw4 : w.heap.size + 1 + 1 + 1 + 1 < w1.heap.size := by omega)); (try (have zw5 : w.heap.size + 1 + 1 + 1 + 1 + 1 < w1.heap.size := by omega)))
  go_ret
  exact ⟨rfl, (by repeat' (first | with_reducible exact Below.refl _ _ | with_reducible refine Below.alloc ?_ (by first | omega | (simp; done) | (simp; omega)) _ | with_reducible refine Below.drew ?_ | with_reducible refine below_drewN ?_ _ | with_reducible refine Below.setCell ?_ (by first | omega | (simp; done) | (simp; omega)) _ | with_reducible refine Below.grown ?_ (by assumption) (by first | omega | (simp; done) | (simp; omega)) (by intro k hk; cases hk; omega) | with_reducible refine Below.trans ?_ (Below.mono (by assumption) (by first | omega | (simp; done) | (simp; omega)))))⟩
end Go.Proofs.Ytjanjaabcinkiaa
