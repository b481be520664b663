/- Works: validPanes, ValidWork (spec and impl), and szWork, toWork, eqWork of the laws; no statement is proved here. -/
import Derived.Test.YtjanjaabcinkiaaPaneS
import Derived.Test.YtjanjaabcinkiaaInR
namespace Go.Proofs.Ytjanjaabcinkiaa
open Go.ChangeShapes Go.WideShapes Go.ChangeAt Go.RowKit Go.Deep
set_option linter.unusedVariables false
set_option linter.unusedSimpArgs false

def pnOk (a0 a1 : Nat → Int) (a3 : Nat → Int) (i : Nat) : Bool := vPane (a0 i) (a1 i) (a3 i)
theorem spec_validPanes_s {b off n cap : Nat} {a0 a1 : Nat → Int} {a2 : Nat → Bool} {a3 : Nat → Int} {w : World} (h : RSl w b off n cap 4 (paneF a0 a1 a2 a3)) :
    Calls Try.prog 87 #[.slice (some ⟨b, off, none⟩) n cap] w (Rt (.bool (allB (pnOk a0 a1 a3) 24 n)) w) := by
  have hsm := h.small
  go_enter Try.func87, Try.ntmps87
  go_wp2_with fail
  go_loopw [3] (fun i wr => ∃ k : Nat, k ≤ n ∧ i = .int .i64 k ∧ Hid (AllTo (pnOk a0 a1 a3) k) ∧ Below w.heap.size w wr) (fun i _ => n - (intOf i).toNat)
  case atStart => exact ⟨0, Nat.zero_le _, rfl, AllTo.zero _, Below.refl _ _⟩
  case round =>
    obtain ⟨k, hk, rfl, HB, hbr⟩ := hrel
    have hsz := hbr.size
    by_cases hlt : k < n
    · have i1 : (0 : Int) ≤ (k : Int) := by omega
      have i2 : (k : Int) < (n : Int) := by omega
      obtain ⟨c0, c1, c2, c3⟩ := pane_cells (h.below hbr) hlt
      cases hv : vPane (a0 k) (a1 k) (a3 k)
      · have hg : Hid (allB (pnOk a0 a1 a3) 24 n = false) := allB_bad hlt hv
        go_wp2_with fail
        go_at_call 90
        refine (spec_validPane_c _ _ _ _ _).mono ?_
        rintro e w1 ⟨rfl, hb1⟩
        rw [hv]
        go_wp2_with fail
        go_ret
        exact ⟨ret_bool hg.out.symm, (by repeat' (first | with_reducible exact Below.refl _ _ | with_reducible refine Below.alloc ?_ (by first | omega | (simp; done) | (simp; omega)) _ | with_reducible refine Below.drew ?_ | with_reducible refine below_drewN ?_ _ | with_reducible refine Below.setCell ?_ (by first | omega | (simp; done) | (simp; omega)) _ | with_reducible refine Below.grown ?_ (by assumption) (by first | omega | (simp; done) | (simp; omega)) (by intro k hk; cases hk; omega) | with_reducible refine Below.trans ?_ (Below.mono (by assumption) (by first | omega | (simp; done) | (simp; omega)))))⟩
      · have hok := mkhid (HB.out.succ hv)
        go_wp2_with fail
        go_at_call 90
        refine (spec_validPane_c _ _ _ _ _).mono ?_
        rintro e w1 ⟨rfl, hb1⟩
        rw [hv]
        go_wp2_with fail
        go_roundw
        case rel => exact ⟨k + 1, by omega, by go_num, hok, (by repeat' (first | with_reducible exact Below.refl _ _ | with_reducible refine Below.alloc ?_ (by first | omega | (simp; done) | (simp; omega)) _ | with_reducible refine Below.drew ?_ | with_reducible refine below_drewN ?_ _ | with_reducible refine Below.setCell ?_ (by first | omega | (simp; done) | (simp; omega)) _ | with_reducible refine Below.grown ?_ (by assumption) (by first | omega | (simp; done) | (simp; omega)) (by intro k hk; cases hk; omega) | with_reducible refine Below.trans ?_ (Below.mono (by assumption) (by first | omega | (simp; done) | (simp; omega)))))⟩
        case measure => simp [intOf]; omega
    · have hkn := mkhid (show k = n by omega)
      by_cases q : n ≤ 24
      · have d1 : decide ((n : Int) ≤ 24) = true := decide_eq_true (by omega)
        have hg : Hid (allB (pnOk a0 a1 a3) 24 n = true) := allB_iff.2 ⟨q, hkn.out ▸ HB.out⟩
        go_wp2
        go_ret
        exact ⟨ret_bool hg.out.symm, hbr⟩
      · have d1 : decide ((n : Int) ≤ 24) = false := decide_eq_false (by omega)
        have hg : Hid (allB (pnOk a0 a1 a3) 24 n = false) := allB_many q
        go_wp2
        go_ret
        exact ⟨ret_bool hg.out.symm, hbr⟩
/-- the sides of a sheet are right -/
def sidesOk (x y : Int) : Bool := decide (1 ≤ x ∧ x ≤ 200 ∧ 1 ≤ y ∧ y ≤ 200)
theorem sidesOk_iff {x y : Int} : sidesOk x y = true ↔ 1 ≤ x ∧ x ≤ 200 ∧ 1 ≤ y ∧ y ≤ 200 := by unfold sidesOk; simp
theorem sidesOk_no {x y : Int} (h : ¬ (1 ≤ x ∧ x ≤ 200 ∧ 1 ≤ y ∧ y ≤ 200)) : sidesOk x y = false := by unfold sidesOk; exact decide_eq_false h
@[irreducible] def vWork (x y : Int) (a0 a1 a3 : Nat → Int) (n : Nat) : Bool := sidesOk x y && allB (pnOk a0 a1 a3) 24 n
theorem vWork_no {x y : Int} {a0 a1 a3 : Nat → Int} {n : Nat} (h : ¬ (1 ≤ x ∧ x ≤ 200 ∧ 1 ≤ y ∧ y ≤ 200)) : vWork x y a0 a1 a3 n = false := by unfold vWork; rw [sidesOk_no h]; rfl
theorem vWork_no2 {x y : Int} {a0 a1 a3 : Nat → Int} {n : Nat} (h : allB (pnOk a0 a1 a3) 24 n = false) : vWork x y a0 a1 a3 n = false := by unfold vWork; rw [h, Bool.and_false]
theorem vWork_eq {x y : Int} {a0 a1 a3 : Nat → Int} {n : Nat} (h : 1 ≤ x ∧ x ≤ 200 ∧ 1 ≤ y ∧ y ≤ 200) : vWork x y a0 a1 a3 n = allB (pnOk a0 a1 a3) 24 n := by unfold vWork; rw [sidesOk_iff.2 h]; rfl
theorem vWork_iff {x y : Int} {a0 a1 a3 : Nat → Int} {n : Nat} : vWork x y a0 a1 a3 n = true ↔ (1 ≤ x ∧ x ≤ 200 ∧ 1 ≤ y ∧ y ≤ 200) ∧ n ≤ 24 ∧ AllTo (pnOk a0 a1 a3) n := by
  unfold vWork; rw [Bool.and_eq_true, sidesOk_iff, allB_iff]
theorem spec_validWork_s {b off n cap : Nat} {a0 a1 : Nat → Int} {a2 : Nat → Bool} {a3 : Nat → Int} {w : World} {x y : Int} (h : RSl w b off n cap 4 (paneF a0 a1 a2 a3)) :
    Calls Try.prog 59 #[(.agg #[.int .i64 x, .int .i64 y, .slice (some ⟨b, off, none⟩) n cap])] w (Rt (.bool (vWork x y a0 a1 a3 n)) w) := by
  by_cases hx : 1 ≤ x ∧ x ≤ 200
  · have h1 := inR_yes hx
    by_cases hy : 1 ≤ y ∧ y ≤ 200
    · have h2 := inR_yes hy
      have hg := mkhid (vWork_eq (a0 := a0) (a1 := a1) (a3 := a3) (n := n) ⟨hx.1, hx.2, hy.1, hy.2⟩)
      clear hx hy
      rw [hg.out]
      go_enter Try.func59, Try.ntmps59
      go_wp2_with (first | (go_at_call 86; refine (inRange_c _ _ _ _).mono ?_; rintro e w1 ⟨rfl, rfl⟩) | (go_at_call 87; refine (spec_validPanes_s (h.below (by repeat' (first | with_reducible exact Below.refl _ _ | with_reducible refine Below.alloc ?_ (by first | omega | (simp; done) | (simp; omega)) _ | with_reducible refine Below.drew ?_ | with_reducible refine below_drewN ?_ _ | with_reducible refine Below.setCell ?_ (by first | omega | (simp; done) | (simp; omega)) _ | with_reducible refine Below.grown ?_ (by assumption) (by first | omega | (simp; done) | (simp; omega)) (by intro k hk; cases hk; omega) | with_reducible refine Below.trans ?_ (Below.mono (by assumption) (by first | omega | (simp; done) | (simp; omega))))))).mono ?_; rintro e w1 ⟨rfl, hb1⟩; obtain ⟨hc1, hf1, -, hz1⟩ := bcell hb1; (try simp at hz1); (try (have zw0 : w.heap.size < w1.heap.size := by omega)); (try (have zw1 : w.heap.size + 1 < w1.heap.size := by omega)); (try (have zw2 : w.heap.size + 1 + 1 < w1.heap.size := by omega)); (try (have zw3 : w.heap.size + 1 + 1 + 1 < w1.heap.size := by omega)); (try (have zw4 : w.heap.size + 1 + 1 + 1 + 1 < w1.heap.size := by omega)); (try (have zw5 : w.heap.size + 1 + 1 + 1 + 1 + 1 < w1.heap.size := by omega))))
      go_ret
      exact ⟨rfl, (by repeat' (first | with_reducible exact Below.refl _ _ | with_reducible refine Below.alloc ?_ (by first | omega | (simp; done) | (simp; omega)) _ | with_reducible refine Below.drew ?_ | with_reducible refine below_drewN ?_ _ | with_reducible refine Below.setCell ?_ (by first | omega | (simp; done) | (simp; omega)) _ | with_reducible refine Below.grown ?_ (by assumption) (by first | omega | (simp; done) | (simp; omega)) (by intro k hk; cases hk; omega) | with_reducible refine Below.trans ?_ (Below.mono (by assumption) (by first | omega | (simp; done) | (simp; omega)))))⟩
    · have h2 := inR_no hy
      have hg : Hid (vWork x y a0 a1 a3 n = false) := vWork_no (by omega)
      clear hx hy
      go_enter Try.func59, Try.ntmps59
      go_wp2_with (first | (go_at_call 86; refine (inRange_c _ _ _ _).mono ?_; rintro e w1 ⟨rfl, rfl⟩))
      go_ret
      exact ⟨ret_bool hg.out.symm, (by repeat' (first | with_reducible exact Below.refl _ _ | with_reducible refine Below.alloc ?_ (by first | omega | (simp; done) | (simp; omega)) _ | with_reducible refine Below.drew ?_ | with_reducible refine below_drewN ?_ _ | with_reducible refine Below.setCell ?_ (by first | omega | (simp; done) | (simp; omega)) _ | with_reducible refine Below.grown ?_ (by assumption) (by first | omega | (simp; done) | (simp; omega)) (by intro k hk; cases hk; omega) | with_reducible refine Below.trans ?_ (Below.mono (by assumption) (by first | omega | (simp; done) | (simp; omega)))))⟩
  · have h1 := inR_no hx
    have hg : Hid (vWork x y a0 a1 a3 n = false) := vWork_no (by omega)
    clear hx
    go_enter Try.func59, Try.ntmps59
    go_wp2_with (first | (go_at_call 86; refine (inRange_c _ _ _ _).mono ?_; rintro e w1 ⟨rfl, rfl⟩))
    go_ret
    exact ⟨ret_bool hg.out.symm, (by repeat' (first | with_reducible exact Below.refl _ _ | with_reducible refine Below.alloc ?_ (by first | omega | (simp; done) | (simp; omega)) _ | with_reducible refine Below.drew ?_ | with_reducible refine below_drewN ?_ _ | with_reducible refine Below.setCell ?_ (by first | omega | (simp; done) | (simp; omega)) _ | with_reducible refine Below.grown ?_ (by assumption) (by first | omega | (simp; done) | (simp; omega)) (by intro k hk; cases hk; omega) | with_reducible refine Below.trans ?_ (Below.mono (by assumption) (by first | omega | (simp; done) | (simp; omega)))))⟩
theorem spec_ValidWork_s {b off n cap : Nat} {a0 a1 : Nat → Int} {a2 : Nat → Bool} {a3 : Nat → Int} {w : World} {x y : Int} (h : RSl w b off n cap 4 (paneF a0 a1 a2 a3)) :
    Calls Try.prog 22 #[(.agg #[.int .i64 x, .int .i64 y, .slice (some ⟨b, off, none⟩) n cap])] w (Rt (.bool (vWork x y a0 a1 a3 n)) w) := by
  go_enter Try.func22, Try.ntmps22
  go_wp2_with (go_at_call 59; refine (spec_validWork_s (h.below (by repeat' (first | with_reducible exact Below.refl _ _ | with_reducible refine Below.alloc ?_ (by first | omega | (simp; done) | (simp; omega)) _ | with_reducible refine Below.drew ?_ | with_reducible refine below_drewN ?_ _ | with_reducible refine Below.setCell ?_ (by first | omega | (simp; done) | (simp; omega)) _ | with_reducible refine Below.grown ?_ (by assumption) (by first | omega | (simp; done) | (simp; omega)) (by intro k hk; cases hk; omega) | with_reducible refine Below.trans ?_ (Below.mono (by assumption) (by first | omega | (simp; done) | (simp; omega))))))).mono ?_; rintro e w1 ⟨rfl, hb1⟩; obtain ⟨hc1, hf1, -, hz1⟩ := bcell hb1; (try simp at hz1); (try (have zw0 : w.heap.size < w1.heap.size := by omega)); (try (have zw1 : w.heap.size + 1 < w1.heap.size := by omega)); (try (have zw2 : w.heap.size + 1 + 1 < w1.heap.size := by omega)); (try (have zw3 : w.heap.size + 1 + 1 + 1 < w1.heap.size := by omega)); (try (have zw4 : w.heap.size + 1 + 1 + 1 + 1 < w1.heap.size := by omega)); (try (have zw5 : w.heap.size + 1 + 1 + 1 + 1 + 1 < w1.heap.size := by omega)))
  go_ret
  exact ⟨rfl, (by repeat' (first | with_reducible exact Below.refl _ _ | with_reducible refine Below.alloc ?_ (by first | omega | (simp; done) | (simp; omega)) _ | with_reducible refine Below.drew ?_ | with_reducible refine below_drewN ?_ _ | with_reducible refine Below.setCell ?_ (by first | omega | (simp; done) | (simp; omega)) _ | with_reducible refine Below.grown ?_ (by assumption) (by first | omega | (simp; done) | (simp; omega)) (by intro k hk; cases hk; omega) | with_reducible refine Below.trans ?_ (Below.mono (by assumption) (by first | omega | (simp; done) | (simp; omega)))))⟩
theorem impl_ValidWork_s {b off n cap : Nat} {a0 a1 : Nat → Int} {a2 : Nat → Bool} {a3 : Nat → Int} {w : World} {x y : Int} (h : RSl w b off n cap 4 (paneF a0 a1 a2 a3)) :
    Calls Try.prog 24 #[(.agg #[.int .i64 x, .int .i64 y, .slice (some ⟨b, off, none⟩) n cap])] w (Rt (.bool (vWork x y a0 a1 a3 n)) w) := by
  have hsm := h.small
  by_cases hxy : 1 ≤ x ∧ x ≤ 200 ∧ 1 ≤ y ∧ y ≤ 200
  · have hg := mkhid (vWork_eq (a0 := a0) (a1 := a1) (a3 := a3) (n := n) hxy)
    obtain ⟨k1, k2, k3, k4⟩ := hxy
    rw [hg.out]
    by_cases q : n ≤ 24
    · have d1 : decide ((24 : Int) < (n : Int)) = false := decide_eq_false (by omega)
      go_enter Try.func24, Try.ntmps24
      go_wp2_with fail
      go_loopw [32] (fun i wr => ∃ k : Nat, k ≤ n ∧ i = .int .i64 k ∧ Hid (AllTo (pnOk a0 a1 a3) k) ∧ Below w.heap.size w wr) (fun i _ => n - (intOf i).toNat)
      case atStart => exact ⟨0, Nat.zero_le _, rfl, AllTo.zero _, (by repeat' (first | with_reducible exact Below.refl _ _ | with_reducible refine Below.alloc ?_ (by first | omega | (simp; done) | (simp; omega)) _ | with_reducible refine Below.drew ?_ | with_reducible refine below_drewN ?_ _ | with_reducible refine Below.setCell ?_ (by first | omega | (simp; done) | (simp; omega)) _ | with_reducible refine Below.grown ?_ (by assumption) (by first | omega | (simp; done) | (simp; omega)) (by intro k hk; cases hk; omega) | with_reducible refine Below.trans ?_ (Below.mono (by assumption) (by first | omega | (simp; done) | (simp; omega)))))⟩
      case round =>
        obtain ⟨k, hk, rfl, HB, hbr⟩ := hrel
        have hsz := hbr.size
        by_cases hlt : k < n
        · have i1 : (0 : Int) ≤ (k : Int) := by omega
          have i2 : (k : Int) < (n : Int) := by omega
          obtain ⟨c0, c1, c2, c3⟩ := pane_cells (h.below hbr) hlt
          cases hv : vPane (a0 k) (a1 k) (a3 k)
          · have hg : Hid (allB (pnOk a0 a1 a3) 24 n = false) := allB_bad hlt hv
            go_wp2_with fail
            go_at_call 61
            refine (impl_ValidPane_c _ _ _ _ _).mono ?_
            rintro e w1 ⟨rfl, hb1⟩
            rw [hv]
            go_wp2_with fail
            go_ret
            exact ⟨ret_bool hg.out.symm, (by repeat' (first | with_reducible exact Below.refl _ _ | with_reducible refine Below.alloc ?_ (by first | omega | (simp; done) | (simp; omega)) _ | with_reducible refine Below.drew ?_ | with_reducible refine below_drewN ?_ _ | with_reducible refine Below.setCell ?_ (by first | omega | (simp; done) | (simp; omega)) _ | with_reducible refine Below.grown ?_ (by assumption) (by first | omega | (simp; done) | (simp; omega)) (by intro k hk; cases hk; omega) | with_reducible refine Below.trans ?_ (Below.mono (by assumption) (by first | omega | (simp; done) | (simp; omega)))))⟩
          · have hok := mkhid (HB.out.succ hv)
            go_wp2_with fail
            go_at_call 61
            refine (impl_ValidPane_c _ _ _ _ _).mono ?_
            rintro e w1 ⟨rfl, hb1⟩
            rw [hv]
            go_wp2_with fail
            go_roundw
            case rel => exact ⟨k + 1, by omega, by go_num, hok, (by repeat' (first | with_reducible exact Below.refl _ _ | with_reducible refine Below.alloc ?_ (by first | omega | (simp; done) | (simp; omega)) _ | with_reducible refine Below.drew ?_ | with_reducible refine below_drewN ?_ _ | with_reducible refine Below.setCell ?_ (by first | omega | (simp; done) | (simp; omega)) _ | with_reducible refine Below.grown ?_ (by assumption) (by first | omega | (simp; done) | (simp; omega)) (by intro k hk; cases hk; omega) | with_reducible refine Below.trans ?_ (Below.mono (by assumption) (by first | omega | (simp; done) | (simp; omega)))))⟩
            case measure => simp [intOf]; omega
        · have hkn := mkhid (show k = n by omega)
          have hg : Hid (allB (pnOk a0 a1 a3) 24 n = true) := allB_iff.2 ⟨q, hkn.out ▸ HB.out⟩
          go_wp2
          go_ret
          exact ⟨ret_bool hg.out.symm, hbr⟩
    · have d1 : decide ((24 : Int) < (n : Int)) = true := decide_eq_true (by omega)
      have hg : Hid (allB (pnOk a0 a1 a3) 24 n = false) := allB_many q
      go_enter Try.func24, Try.ntmps24
      go_wp2_with fail
      go_ret
      exact ⟨ret_bool hg.out.symm, (by repeat' (first | with_reducible exact Below.refl _ _ | with_reducible refine Below.alloc ?_ (by first | omega | (simp; done) | (simp; omega)) _ | with_reducible refine Below.drew ?_ | with_reducible refine below_drewN ?_ _ | with_reducible refine Below.setCell ?_ (by first | omega | (simp; done) | (simp; omega)) _ | with_reducible refine Below.grown ?_ (by assumption) (by first | omega | (simp; done) | (simp; omega)) (by intro k hk; cases hk; omega) | with_reducible refine Below.trans ?_ (Below.mono (by assumption) (by first | omega | (simp; done) | (simp; omega)))))⟩
  · have hg : Hid (vWork x y a0 a1 a3 n = false) := vWork_no hxy
    rw [hg.out]
    go_enter Try.func24, Try.ntmps24
    go_wp2_with fail
    all_goals (first | (exfalso; omega) | skip)
    all_goals (try (go_loopw [32] (fun i wr => False) (fun i _ => 0) <;> exfalso <;> omega))
    all_goals go_ret
    all_goals exact ⟨rfl, (by repeat' (first | with_reducible exact Below.refl _ _ | with_reducible refine Below.alloc ?_ (by first | omega | (simp; done) | (simp; omega)) _ | with_reducible refine Below.drew ?_ | with_reducible refine below_drewN ?_ _ | with_reducible refine Below.setCell ?_ (by first | omega | (simp; done) | (simp; omega)) _ | with_reducible refine Below.grown ?_ (by assumption) (by first | omega | (simp; done) | (simp; omega)) (by intro k hk; cases hk; omega) | with_reducible refine Below.trans ?_ (Below.mono (by assumption) (by first | omega | (simp; done) | (simp; omega)))))⟩
/-- a work that is returned, its panes in new memory -/
def FrW (x y : Int) (n : Nat) (f : Nat → Nat → Value) (w : World) : Ending → World → Prop := fun e w' => ∃ g, e = .returned (.agg #[.int .i64 x, .int .i64 y, .slice (some ⟨g, 0, none⟩) n n]) ∧ RSl w' g 0 n n 4 f ∧ Below w.heap.size w w'
theorem szWork_c (x y : Int) (p : Option Addr) (n cap : Nat) (left : Int) (w : World) (hn : n ≤ maxLen) (hl : 0 ≤ left ∧ left ≤ 2000000) : Calls Try.prog 21 #[(.agg #[.int .i64 x, .int .i64 y, .slice p n cap]), (.int .i64 left)] w (Rt (.int .i64 (if (n : Int) ≤ left then left - n else -1)) w) := by
  have hm := hn
  unfold maxLen at hm
  have CS := fun W => rs_rt (szPaneS_c p n cap left W hn hl)
  obtain ⟨hl1, hl2⟩ := hl
  by_cases h : (n : Int) ≤ left
  · have d1 : decide (left - (n : Int) < 0) = false := decide_eq_false (by omega)
    rw [if_pos h] at CS ⊢
    go_enter Try.func21, Try.ntmps21
    go_wp2_with (go_at_call 58; refine (CS _).mono ?_; rintro e w1 ⟨rfl, hb1⟩; obtain ⟨hc1, hf1, -, hz1⟩ := bcell hb1; (try simp at hz1); (try (have zw0 : w.heap.size < w1.heap.size := by omega)); (try (have zw1 : w.heap.size + 1 < w1.heap.size := by omega)); (try (have zw2 : w.heap.size + 1 + 1 < w1.heap.size := by omega)); (try (have zw3 : w.heap.size + 1 + 1 + 1 < w1.heap.size := by omega)); (try (have zw4 : w.heap.size + 1 + 1 + 1 + 1 < w1.heap.size := by omega)); (try (have zw5 : w.heap.size + 1 + 1 + 1 + 1 + 1 < w1.heap.size := by omega)))
    go_ret
    exact ⟨rfl, (by repeat' (first | with_reducible exact Below.refl _ _ | with_reducible refine Below.alloc ?_ (by first | omega | (simp; done) | (simp; omega)) _ | with_reducible refine Below.drew ?_ | with_reducible refine below_drewN ?_ _ | with_reducible refine Below.setCell ?_ (by first | omega | (simp; done) | (simp; omega)) _ | with_reducible refine Below.grown ?_ (by assumption) (by first | omega | (simp; done) | (simp; omega)) (by intro k hk; cases hk; omega) | with_reducible refine Below.trans ?_ (Below.mono (by assumption) (by first | omega | (simp; done) | (simp; omega)))))⟩
  · rw [if_neg h] at CS ⊢
    go_enter Try.func21, Try.ntmps21
    go_wp2_with (go_at_call 58; refine (CS _).mono ?_; rintro e w1 ⟨rfl, hb1⟩; obtain ⟨hc1, hf1, -, hz1⟩ := bcell hb1; (try simp at hz1); (try (have zw0 : w.heap.size < w1.heap.size := by omega)); (try (have zw1 : w.heap.size + 1 < w1.heap.size := by omega)); (try (have zw2 : w.heap.size + 1 + 1 < w1.heap.size := by omega)); (try (have zw3 : w.heap.size + 1 + 1 + 1 < w1.heap.size := by omega)); (try (have zw4 : w.heap.size + 1 + 1 + 1 + 1 < w1.heap.size := by omega)); (try (have zw5 : w.heap.size + 1 + 1 + 1 + 1 + 1 < w1.heap.size := by omega)))
    go_ret
    exact ⟨rfl, (by repeat' (first | with_reducible exact Below.refl _ _ | with_reducible refine Below.alloc ?_ (by first | omega | (simp; done) | (simp; omega)) _ | with_reducible refine Below.drew ?_ | with_reducible refine below_drewN ?_ _ | with_reducible refine Below.setCell ?_ (by first | omega | (simp; done) | (simp; omega)) _ | with_reducible refine Below.grown ?_ (by assumption) (by first | omega | (simp; done) | (simp; omega)) (by intro k hk; cases hk; omega) | with_reducible refine Below.trans ?_ (Below.mono (by assumption) (by first | omega | (simp; done) | (simp; omega)))))⟩
theorem toWork_c (x y : Int) (v : Value) (n : Nat) (a0 a1 : Nat → Int) (a2 : Nat → Bool) (a3 : Nat → Int) (w : World) (hv : RISl w v n 4 (paneF a0 a1 a2 a3)) (hn : n ≤ 1048576) : Calls Try.prog 23 #[(.agg #[.int .i64 x, .int .i64 y, v])] w (FrW x y n (paneF a0 a1 a2 a3) w) := by
  have hv' := hv
  obtain ⟨p, cap, rfl, _⟩ := hv'
  go_enter Try.func23, Try.ntmps23
  go_wp2_with fail
  go_at_call 60
  refine (toPaneS_c _ n a0 a1 a2 a3 _ (hv.below (by repeat' (first | with_reducible exact Below.refl _ _ | with_reducible refine Below.alloc ?_ (by first | omega | (simp; done) | (simp; omega)) _ | with_reducible refine Below.drew ?_ | with_reducible refine below_drewN ?_ _ | with_reducible refine Below.setCell ?_ (by first | omega | (simp; done) | (simp; omega)) _ | with_reducible refine Below.grown ?_ (by assumption) (by first | omega | (simp; done) | (simp; omega)) (by intro k hk; cases hk; omega) | with_reducible refine Below.trans ?_ (Below.mono (by assumption) (by first | omega | (simp; done) | (simp; omega)))))) hn).mono ?_
  rintro e w1 ⟨g, rfl, lg, j1, hb1⟩
  obtain ⟨hc1, hf1, -, hz1⟩ := bcell hb1
  (try simp at hz1)
  (try (have y1 : w.heap.size ≤ w1.heap.size := by omega))
  (try (have z1_0_0 : w.heap.size < w1.heap.size := by omega))
  (try (have z1_0_1 : w.heap.size + 1 < w1.heap.size := by omega))
  (try (have z1_0_2 : w.heap.size + 1 + 1 < w1.heap.size := by omega))
  (try (have z1_0_3 : w.heap.size + 1 + 1 + 1 < w1.heap.size := by omega))
  go_wp2_with fail
  simp at lg
  refine bodyPost_ret (v := (.agg #[.int .i64 x, .int .i64 y, .slice (some ⟨g, 0, none⟩) n n])) (by simp [results, Try.results23, go_sem, *]) rfl ⟨g, rfl, ?_, ?_⟩
  · repeat (first | exact j1 | refine RSl.set ?_ (by omega) _ _)
  · exact (by repeat' (first | with_reducible exact Below.refl _ _ | with_reducible refine Below.alloc ?_ (by first | omega | (simp; done) | (simp; omega)) _ | with_reducible refine Below.drew ?_ | with_reducible refine below_drewN ?_ _ | with_reducible refine Below.setCell ?_ (by first | omega | (simp; done) | (simp; omega)) _ | with_reducible refine Below.grown ?_ (by assumption) (by first | omega | (simp; done) | (simp; omega)) (by intro k hk; cases hk; omega) | with_reducible refine Below.trans ?_ (Below.mono (by assumption) (by first | omega | (simp; done) | (simp; omega)))))
theorem eqWork_c {x y : Int} {b off n cap b' off' cap' : Nat} {a0 a1 : Nat → Int} {a2 : Nat → Bool} {a3 : Nat → Int} {w : World} (h : RSl w b off n cap 4 (paneF a0 a1 a2 a3)) (h' : RSl w b' off' n cap' 4 (paneF a0 a1 a2 a3)) :
    Calls Try.prog 25 #[(.agg #[.int .i64 x, .int .i64 y, .slice (some ⟨b, off, none⟩) n cap]), (.agg #[.int .i64 x, .int .i64 y, .slice (some ⟨b', off', none⟩) n cap'])] w (Rt (.bool true) w) := by
  go_enter Try.func25, Try.ntmps25
  go_wp2_with (go_at_call 62; refine (eqPaneS_same (h.below (by repeat' (first | with_reducible exact Below.refl _ _ | with_reducible refine Below.alloc ?_ (by first | omega | (simp; done) | (simp; omega)) _ | with_reducible refine Below.drew ?_ | with_reducible refine below_drewN ?_ _ | with_reducible refine Below.setCell ?_ (by first | omega | (simp; done) | (simp; omega)) _ | with_reducible refine Below.grown ?_ (by assumption) (by first | omega | (simp; done) | (simp; omega)) (by intro k hk; cases hk; omega) | with_reducible refine Below.trans ?_ (Below.mono (by assumption) (by first | omega | (simp; done) | (simp; omega)))))) (h'.below (by repeat' (first | with_reducible exact Below.refl _ _ | with_reducible refine Below.alloc ?_ (by first | omega | (simp; done) | (simp; omega)) _ | with_reducible refine Below.drew ?_ | with_reducible refine below_drewN ?_ _ | with_reducible refine Below.setCell ?_ (by first | omega | (simp; done) | (simp; omega)) _ | with_reducible refine Below.grown ?_ (by assumption) (by first | omega | (simp; done) | (simp; omega)) (by intro k hk; cases hk; omega) | with_reducible refine Below.trans ?_ (Below.mono (by assumption) (by first | omega | (simp; done) | (simp; omega))))))).mono ?_; rintro e w1 ⟨rfl, hb1⟩; obtain ⟨hc1, hf1, -, hz1⟩ := bcell hb1; (try simp at hz1); (try (have zw0 : w.heap.size < w1.heap.size := by omega)); (try (have zw1 : w.heap.size + 1 < w1.heap.size := by omega)); (try (have zw2 : w.heap.size + 1 + 1 < w1.heap.size := by omega)); (try (have zw3 : w.heap.size + 1 + 1 + 1 < w1.heap.size := by omega)); (try (have zw4 : w.heap.size + 1 + 1 + 1 + 1 < w1.heap.size := by omega)); (try (have zw5 : w.heap.size + 1 + 1 + 1 + 1 + 1 < w1.heap.size := by omega)))
  go_ret
  exact ⟨rfl, (by repeat' (first | with_reducible exact Below.refl _ _ | with_reducible refine Below.alloc ?_ (by first | omega | (simp; done) | (simp; omega)) _ | with_reducible refine Below.drew ?_ | with_reducible refine below_drewN ?_ _ | with_reducible refine Below.setCell ?_ (by first | omega | (simp; done) | (simp; omega)) _ | with_reducible refine Below.grown ?_ (by assumption) (by first | omega | (simp; done) | (simp; omega)) (by intro k hk; cases hk; omega) | with_reducible refine Below.trans ?_ (Below.mono (by assumption) (by first | omega | (simp; done) | (simp; omega)))))⟩
end Go.Proofs.Ytjanjaabcinkiaa
