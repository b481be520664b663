/- Orders: validOrder of spec, findLine and ValidOrder of impl; no statement is proved here. -/
import Derived.Test.YtjanjaabcinkiaaLineS
import Derived.Test.YtjanjaabcinkiaaInR
import Derived.Test.YtjanjaabcinkiaaCls
import Derived.Test.YtjanjaabcinkiaaFst
namespace Go.Proofs.Ytjanjaabcinkiaa
open Go.ChangeShapes Go.WideShapes Go.ChangeAt Go.RowKit Go.Deep
set_option linter.unusedVariables false
set_option linter.unusedSimpArgs false

/-- two panes are the same -/
@[irreducible] def samP (x0 x1 : Int) (x2 : Bool) (x3 y0 y1 : Int) (y2 : Bool) (y3 : Int) : Bool := decide (x0 = y0 ∧ x1 = y1 ∧ x2 = y2 ∧ x3 = y3)
theorem samP_iff {x0 x1 : Int} {x2 : Bool} {x3 y0 y1 : Int} {y2 : Bool} {y3 : Int} : samP x0 x1 x2 x3 y0 y1 y2 y3 = true ↔ x0 = y0 ∧ x1 = y1 ∧ x2 = y2 ∧ x3 = y3 := by unfold samP; simp
theorem samP_no {x0 x1 : Int} {x2 : Bool} {x3 y0 y1 : Int} {y2 : Bool} {y3 : Int} : samP x0 x1 x2 x3 y0 y1 y2 y3 = false ↔ ¬ (x0 = y0 ∧ x1 = y1 ∧ x2 = y2 ∧ x3 = y3) := by unfold samP; simp
theorem findLine1_c (x0 x1 : Int) (x2 : Bool) (x3 x4 y0 y1 : Int) (y2 : Bool) (y3 : Int) (g : Nat) (w : World) (hg : g < w.heap.size)
    (q0 : w.cell? ⟨g, 0, none⟩ = some (.int .i64 y0)) (q1 : w.cell? ⟨g, 1, none⟩ = some (.int .i64 y1)) (q2 : w.cell? ⟨g, 2, none⟩ = some (.bool y2)) (q3 : w.cell? ⟨g, 3, none⟩ = some (.int .i64 y3)) :
    Calls Try.prog 92 #[(.agg #[.int .i64 x0, .int .i64 x1, .bool x2, .int .i64 x3, .int .i64 x4]), .pointer (some ⟨g, 0, none⟩)] w (Rt (.bool (samP x0 x1 x2 x3 y0 y1 y2 y3)) w) := by
  have hu : Hid (samP x0 x1 x2 x3 y0 y1 y2 y3 = decide (x0 = y0 ∧ x1 = y1 ∧ x2 = y2 ∧ x3 = y3)) := by show _ = _; unfold samP; rfl
  go_enter Try.func92, Try.ntmps92
  go_wp2
  all_goals (go_ret; refine ⟨ret_bool ?_, (by repeat' (first | with_reducible exact Below.refl _ _ | with_reducible refine Below.alloc ?_ (by first | omega | (simp; done) | (simp; omega)) _ | with_reducible refine Below.drew ?_ | with_reducible refine below_drewN ?_ _ | with_reducible refine Below.setCell ?_ (by first | omega | (simp; done) | (simp; omega)) _ | with_reducible refine Below.grown ?_ (by assumption) (by first | omega | (simp; done) | (simp; omega)) (by intro k hk; cases hk; omega) | with_reducible refine Below.trans ?_ (Below.mono (by assumption) (by first | omega | (simp; done) | (simp; omega)))))⟩)
  all_goals (rw [hu.out]; rw [Bool.eq_iff_iff]; simp [*])
def smA (a0 a1 : Nat → Int) (a2 : Nat → Bool) (a3 : Nat → Int) (y0 y1 : Int) (y2 : Bool) (y3 : Int) (i : Nat) : Bool := samP (a0 i) (a1 i) (a2 i) (a3 i) y0 y1 y2 y3
set_option maxHeartbeats 1000000 in
theorem idxLine_c {b off n cap : Nat} {a0 a1 : Nat → Int} {a2 : Nat → Bool} {a3 a4 : Nat → Int} {w : World} (h : RSl w b off n cap 5 (lineF a0 a1 a2 a3 a4)) (y0 y1 : Int) (y2 : Bool) (y3 : Int) (g : Nat) (hg : g < w.heap.size)
    (q0 : w.cell? ⟨g, 0, none⟩ = some (.int .i64 y0)) (q1 : w.cell? ⟨g, 1, none⟩ = some (.int .i64 y1)) (q2 : w.cell? ⟨g, 2, none⟩ = some (.bool y2)) (q3 : w.cell? ⟨g, 3, none⟩ = some (.int .i64 y3)) :
    Calls Try.prog 91 #[.slice (some ⟨b, off, none⟩) n cap, .func (.func 92) #[] #[.pointer (some ⟨g, 0, none⟩)]] w (Rt (.int .i64 (fstB (smA a0 a1 a2 a3 y0 y1 y2 y3) n)) w) := by
  have hsm := h.small
  go_enter Try.func91, Try.ntmps91
  go_wp2_with fail
  go_loopw [8] (fun i wr => ∃ k : Nat, k ≤ n ∧ i = .int .i64 k ∧ Hid (∀ j, j < k → smA a0 a1 a2 a3 y0 y1 y2 y3 j = false) ∧ Below w.heap.size w wr) (fun i _ => n - (intOf i).toNat)
  case atStart => exact ⟨0, Nat.zero_le _, rfl, fun j hj => by omega, Below.refl _ _⟩
  case round =>
    obtain ⟨k, hk, rfl, HB, hbr⟩ := hrel
    have hsz := hbr.size
    by_cases hlt : k < n
    · have i1 : (0 : Int) ≤ (k : Int) := by omega
      have i2 : (k : Int) < (n : Int) := by omega
      obtain ⟨c0, c1, c2, c3, c4⟩ := line_cells (h.below hbr) hlt
      have r0 := (hbr.cell (p := ⟨g, 0, none⟩) hg).trans q0
      have r1 := (hbr.cell (p := ⟨g, 1, none⟩) hg).trans q1
      have r2 := (hbr.cell (p := ⟨g, 2, none⟩) hg).trans q2
      have r3 := (hbr.cell (p := ⟨g, 3, none⟩) hg).trans q3
      have CL := findLine1_c (a0 k) (a1 k) (a2 k) (a3 k) (a4 k) y0 y1 y2 y3 g wr (by omega) r0 r1 r2 r3
      cases hv : samP (a0 k) (a1 k) (a2 k) (a3 k) y0 y1 y2 y3
      · have hok : Hid (∀ j, j < k + 1 → smA a0 a1 a2 a3 y0 y1 y2 y3 j = false) := fun j hj => by
          rcases Nat.lt_succ_iff_lt_or_eq.1 hj with e | e
          · exact HB.out j e
          · exact e ▸ hv
        rw [hv] at CL
        clear hv
        go_wp2_with fail
        go_at_call 92
        refine CL.mono ?_
        rintro e w1 ⟨rfl, hb1⟩
        go_wp2_with fail
        go_roundw
        case rel => exact ⟨k + 1, by omega, by go_num, hok, (by repeat' (first | with_reducible exact Below.refl _ _ | with_reducible refine Below.alloc ?_ (by first | omega | (simp; done) | (simp; omega)) _ | with_reducible refine Below.drew ?_ | with_reducible refine below_drewN ?_ _ | with_reducible refine Below.setCell ?_ (by first | omega | (simp; done) | (simp; omega)) _ | with_reducible refine Below.grown ?_ (by assumption) (by first | omega | (simp; done) | (simp; omega)) (by intro k hk; cases hk; omega) | with_reducible refine Below.trans ?_ (Below.mono (by assumption) (by first | omega | (simp; done) | (simp; omega)))))⟩
        case measure => simp [intOf]; omega
      · have hg : Hid (fstB (smA a0 a1 a2 a3 y0 y1 y2 y3) n = (k : Int)) := fstB_at hlt hv HB.out
        rw [hv] at CL
        clear hv
        go_wp2_with fail
        go_at_call 92
        refine CL.mono ?_
        rintro e w1 ⟨rfl, hb1⟩
        go_wp2_with fail
        go_ret
        exact ⟨ret_int hg.out.symm, (by repeat' (first | with_reducible exact Below.refl _ _ | with_reducible refine Below.alloc ?_ (by first | omega | (simp; done) | (simp; omega)) _ | with_reducible refine Below.drew ?_ | with_reducible refine below_drewN ?_ _ | with_reducible refine Below.setCell ?_ (by first | omega | (simp; done) | (simp; omega)) _ | with_reducible refine Below.grown ?_ (by assumption) (by first | omega | (simp; done) | (simp; omega)) (by intro k hk; cases hk; omega) | with_reducible refine Below.trans ?_ (Below.mono (by assumption) (by first | omega | (simp; done) | (simp; omega)))))⟩
    · have hkn := mkhid (show k = n by omega)
      have hg : Hid (fstB (smA a0 a1 a2 a3 y0 y1 y2 y3) n = -1) := fstB_none (hkn.out ▸ HB.out)
      go_wp2
      go_ret
      exact ⟨ret_int hg.out.symm, hbr⟩
theorem findLine_c {b off n cap : Nat} {a0 a1 : Nat → Int} {a2 : Nat → Bool} {a3 a4 : Nat → Int} {w : World} (h : RSl w b off n cap 5 (lineF a0 a1 a2 a3 a4)) (y0 y1 : Int) (y2 : Bool) (y3 : Int) :
    Calls Try.prog 65 #[.slice (some ⟨b, off, none⟩) n cap, (.agg #[.int .i64 y0, .int .i64 y1, .bool y2, .int .i64 y3])] w (Rt (.int .i64 (fstB (smA a0 a1 a2 a3 y0 y1 y2 y3) n)) w) := by
  have hmf : ∀ (fn : Fn) (first cap : Array Value) (w : World), (Instr.makeFunc fn first cap).run Try.prog w = .ok (.func fn first cap) w := fun _ _ _ _ => rfl
  go_enter Try.func65, Try.ntmps65
  go_wp2_with fail
  go_at_call 91
  refine (idxLine_c (h.below (by repeat' (first | with_reducible exact Below.refl _ _ | with_reducible refine Below.alloc ?_ (by first | omega | (simp; done) | (simp; omega)) _ | with_reducible refine Below.drew ?_ | with_reducible refine below_drewN ?_ _ | with_reducible refine Below.setCell ?_ (by first | omega | (simp; done) | (simp; omega)) _ | with_reducible refine Below.grown ?_ (by assumption) (by first | omega | (simp; done) | (simp; omega)) (by intro k hk; cases hk; omega) | with_reducible refine Below.trans ?_ (Below.mono (by assumption) (by first | omega | (simp; done) | (simp; omega)))))) y0 y1 y2 y3 w.heap.size (by simp) (by go_simp) (by go_simp) (by go_simp) (by go_simp)).mono ?_
  rintro e w1 ⟨rfl, hb1⟩
  go_wp2_with fail
  go_ret
  exact ⟨rfl, (by repeat' (first | with_reducible exact Below.refl _ _ | with_reducible refine Below.alloc ?_ (by first | omega | (simp; done) | (simp; omega)) _ | with_reducible refine Below.drew ?_ | with_reducible refine below_drewN ?_ _ | with_reducible refine Below.setCell ?_ (by first | omega | (simp; done) | (simp; omega)) _ | with_reducible refine Below.grown ?_ (by assumption) (by first | omega | (simp; done) | (simp; omega)) (by intro k hk; cases hk; omega) | with_reducible refine Below.trans ?_ (Below.mono (by assumption) (by first | omega | (simp; done) | (simp; omega)))))⟩
/-- line i is right, and its pane is in no line before it -/
def lnI (a0 a1 : Nat → Int) (a2 : Nat → Bool) (a3 : Nat → Int) (i j : Nat) : Bool := !samP (a0 j) (a1 j) (a2 j) (a3 j) (a0 i) (a1 i) (a2 i) (a3 i)
def lnOk (a0 a1 : Nat → Int) (a2 : Nat → Bool) (a3 a4 : Nat → Int) (i : Nat) : Bool := vPane (a0 i) (a1 i) (a3 i) && (decide (1 ≤ a4 i ∧ a4 i ≤ 24) && allB (lnI a0 a1 a2 a3 i) i i)
theorem lnOk_iff {a0 a1 : Nat → Int} {a2 : Nat → Bool} {a3 a4 : Nat → Int} {i : Nat} : lnOk a0 a1 a2 a3 a4 i = true ↔ vPane (a0 i) (a1 i) (a3 i) = true ∧ (1 ≤ a4 i ∧ a4 i ≤ 24) ∧ AllTo (lnI a0 a1 a2 a3 i) i := by
  unfold lnOk; rw [Bool.and_eq_true, Bool.and_eq_true, decide_eq_true_eq, allB_iff]
  exact ⟨fun ⟨x, y, _, z⟩ => ⟨x, y, z⟩, fun ⟨x, y, z⟩ => ⟨x, y, Nat.le_refl _, z⟩⟩
theorem lnOk_no {a0 a1 : Nat → Int} {a2 : Nat → Bool} {a3 a4 : Nat → Int} {i : Nat} (h : ¬ (vPane (a0 i) (a1 i) (a3 i) = true ∧ (1 ≤ a4 i ∧ a4 i ≤ 24) ∧ AllTo (lnI a0 a1 a2 a3 i) i)) : lnOk a0 a1 a2 a3 a4 i = false := by
  rw [← lnOk_iff] at h; simpa using h
/-- how many panes the first k lines have -/
def ctT (a4 : Nat → Int) : Nat → Int
  | 0 => 0
  | k + 1 => ctT a4 k + a4 k
@[irreducible] def ctS (a4 : Nat → Int) (k : Nat) : Int := ctT a4 k
theorem ctS_zero (a4 : Nat → Int) : ctS a4 0 = 0 := by unfold ctS; rfl
theorem ctS_succ (a4 : Nat → Int) (k : Nat) : ctS a4 (k + 1) = ctS a4 k + a4 k := by unfold ctS; rfl
theorem ctS_bd {a0 a1 : Nat → Int} {a2 : Nat → Bool} {a3 a4 : Nat → Int} {n k : Nat} (h : AllTo (lnOk a0 a1 a2 a3 a4) n) (hk : k ≤ n) : 0 ≤ ctS a4 k ∧ ctS a4 k ≤ 24 * k := by
  induction k with
  | zero => rw [ctS_zero]; omega
  | succ k ih =>
    have := ih (by omega)
    have hc := (lnOk_iff.1 (h k (by omega))).2.1
    rw [ctS_succ]; omega
theorem ctS_mono {a0 a1 : Nat → Int} {a2 : Nat → Bool} {a3 a4 : Nat → Int} {n k m : Nat} (h : AllTo (lnOk a0 a1 a2 a3 a4) n) (hm : k + m ≤ n) : ctS a4 k ≤ ctS a4 (k + m) := by
  induction m with
  | zero => exact Int.le_refl _
  | succ m ih =>
    have := ih (by omega)
    have hc := (lnOk_iff.1 (h (k + m) (by omega))).2.1
    rw [← Nat.add_assoc, ctS_succ]; omega
@[irreducible] def vOrd (a0 a1 : Nat → Int) (a2 : Nat → Bool) (a3 a4 : Nat → Int) (n : Nat) : Bool := decide (n ≤ 8 ∧ AllTo (lnOk a0 a1 a2 a3 a4) n ∧ ctS a4 n ≤ 24)
theorem vOrd_iff {a0 a1 : Nat → Int} {a2 : Nat → Bool} {a3 a4 : Nat → Int} {n : Nat} : vOrd a0 a1 a2 a3 a4 n = true ↔ n ≤ 8 ∧ AllTo (lnOk a0 a1 a2 a3 a4) n ∧ ctS a4 n ≤ 24 := by unfold vOrd; simp
theorem vOrd_no {a0 a1 : Nat → Int} {a2 : Nat → Bool} {a3 a4 : Nat → Int} {n : Nat} (h : ¬ (n ≤ 8 ∧ AllTo (lnOk a0 a1 a2 a3 a4) n ∧ ctS a4 n ≤ 24)) : vOrd a0 a1 a2 a3 a4 n = false := by unfold vOrd; exact decide_eq_false h
theorem vOrd_bad {a0 a1 : Nat → Int} {a2 : Nat → Bool} {a3 a4 : Nat → Int} {n k : Nat} (hk : k < n) (h : ¬ (vPane (a0 k) (a1 k) (a3 k) = true ∧ (1 ≤ a4 k ∧ a4 k ≤ 24) ∧ AllTo (lnI a0 a1 a2 a3 k) k)) : vOrd a0 a1 a2 a3 a4 n = false :=
  vOrd_no (fun hh => h (lnOk_iff.1 (hh.2.1 k hk)))
theorem vOrd_over {a0 a1 : Nat → Int} {a2 : Nat → Bool} {a3 a4 : Nat → Int} {n k : Nat} (hk : k < n) (h : 24 < ctS a4 k + a4 k) : vOrd a0 a1 a2 a3 a4 n = false :=
  vOrd_no (fun hh => by
    have := ctS_mono (k := k + 1) (m := n - (k + 1)) hh.2.1 (by omega)
    rw [show k + 1 + (n - (k + 1)) = n by omega, ctS_succ] at this
    have := hh.2.2
    omega)
theorem lnI_bad {a0 a1 : Nat → Int} {a2 : Nat → Bool} {a3 : Nat → Int} {i j : Nat} (hj : j < i) (h : samP (a0 j) (a1 j) (a2 j) (a3 j) (a0 i) (a1 i) (a2 i) (a3 i) = true) : ¬ AllTo (lnI a0 a1 a2 a3 i) i := fun hh => by
  have := hh j hj
  unfold lnI at this
  rw [h] at this
  cases this
end Go.Proofs.Ytjanjaabcinkiaa
