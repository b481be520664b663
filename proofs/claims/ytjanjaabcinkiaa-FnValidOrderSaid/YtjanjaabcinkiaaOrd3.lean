/- ValidOrder of impl; no statement is proved here. -/
import Derived.Test.YtjanjaabcinkiaaOrd2
namespace Go.Proofs.Ytjanjaabcinkiaa
open Go.ChangeShapes Go.WideShapes Go.ChangeAt Go.RowKit Go.Deep
set_option linter.unusedVariables false
set_option linter.unusedSimpArgs false

theorem five_stay {W w : World} (hb : Below W.heap.size W w) {g : Nat} (hg : g < W.heap.size) {v0 v1 v2 v3 v4 : Value} (h0 : W.cell? ⟨g, 0, none⟩ = some v0) (h1 : W.cell? ⟨g, 1, none⟩ = some v1) (h2 : W.cell? ⟨g, 2, none⟩ = some v2) (h3 : W.cell? ⟨g, 3, none⟩ = some v3) (h4 : W.cell? ⟨g, 4, none⟩ = some v4) :
    w.cell? ⟨g, 0, none⟩ = some v0 ∧ w.cell? ⟨g, 1, none⟩ = some v1 ∧ w.cell? ⟨g, 2, none⟩ = some v2 ∧ w.cell? ⟨g, 3, none⟩ = some v3 ∧ w.cell? ⟨g, 4, none⟩ = some v4 :=
  ⟨(hb.cell (p := ⟨g, 0, none⟩) hg).trans h0, (hb.cell (p := ⟨g, 1, none⟩) hg).trans h1, (hb.cell (p := ⟨g, 2, none⟩) hg).trans h2, (hb.cell (p := ⟨g, 3, none⟩) hg).trans h3, (hb.cell (p := ⟨g, 4, none⟩) hg).trans h4⟩
set_option maxHeartbeats 1600000 in
theorem impl_ValidOrder_s {b off n cap : Nat} {a0 a1 : Nat → Int} {a2 : Nat → Bool} {a3 a4 : Nat → Int} {w : World} (h : RSl w b off n cap 5 (lineF a0 a1 a2 a3 a4)) :
    Calls Try.prog 29 #[.slice (some ⟨b, off, none⟩) n cap] w (Rt (.bool (vOrd a0 a1 a2 a3 a4 n)) w) := by
  have hsm := h.small
  by_cases q : n ≤ 8
  · have d1 : decide ((8 : Int) < (n : Int)) = false := decide_eq_false (by omega)
    go_enter Try.func29, Try.ntmps29
    go_wp2_with fail
    go_loopw [3, 11] (fun s i wr => ∃ k : Nat, k ≤ n ∧ i = .int .i64 k ∧ s = .int .i64 (24 - ctS a4 k) ∧ ctS a4 k ≤ 24 ∧ Hid (AllTo (lnOk a0 a1 a2 a3 a4) k) ∧ Below w.heap.size w wr) (fun _ i _ => n - (intOf i).toNat)
    case atStart => exact ⟨0, Nat.zero_le _, rfl, by rw [ctS_zero]; rfl, by rw [ctS_zero]; omega, AllTo.zero _, Below.refl _ _⟩
    case round =>
      obtain ⟨k, hk, rfl, rfl, hle, HB, hbr⟩ := hrel
      have hsz := hbr.size
      obtain ⟨s1, s2⟩ := ctS_bd HB.out (Nat.le_refl k)
      by_cases hlt : k < n
      · have i1 : (0 : Int) ≤ (k : Int) := by omega
        have i2 : (k : Int) < (n : Int) := by omega
        obtain ⟨c0, c1, c2, c3, c4⟩ := line_cells (h.below hbr) hlt
        have CV := fun W => impl_ValidPane_c (a0 k) (a1 k) (a2 k) (a3 k) W
        have CF := fun W (hW : Below w.heap.size w W) => findLine_c (h.below hW) (a0 k) (a1 k) (a2 k) (a3 k)
        have hsame : samP (a0 k) (a1 k) (a2 k) (a3 k) (a0 k) (a1 k) (a2 k) (a3 k) = true := samP_iff.2 ⟨rfl, rfl, rfl, rfl⟩
        go_wp2_with fail
        obtain ⟨wt, hwt⟩ : ∃ wt : World, wt = wr.alloc (.cells #[(.int .i64 (a0 k)), (.int .i64 (a1 k)), .bool (a2 k), (.int .i64 (a3 k)), (.int .i64 (a4 k))] 91) := ⟨_, rfl⟩
        have t0 : wt.cell? ⟨wr.heap.size, 0, none⟩ = some (.int .i64 (a0 k)) := by rw [hwt, World.cell?_alloc_at _ _ _ _ rfl]; rfl
        have t1 : wt.cell? ⟨wr.heap.size, 1, none⟩ = some (.int .i64 (a1 k)) := by rw [hwt, World.cell?_alloc_at _ _ _ _ rfl]; rfl
        have t2 : wt.cell? ⟨wr.heap.size, 2, none⟩ = some (.bool (a2 k)) := by rw [hwt, World.cell?_alloc_at _ _ _ _ rfl]; rfl
        have t3 : wt.cell? ⟨wr.heap.size, 3, none⟩ = some (.int .i64 (a3 k)) := by rw [hwt, World.cell?_alloc_at _ _ _ _ rfl]; rfl
        have t4 : wt.cell? ⟨wr.heap.size, 4, none⟩ = some (.int .i64 (a4 k)) := by rw [hwt, World.cell?_alloc_at _ _ _ _ rfl]; rfl
        have hbt : Below w.heap.size w wt := by rw [hwt]; exact hbr.alloc hsz _
        have htl : wr.heap.size < wt.heap.size := by rw [hwt]; simp
        rw [← hwt]
        clear hwt c0 c1 c2 c3 c4
        cases hv : vPane (a0 k) (a1 k) (a3 k)
        · have hg : Hid (vOrd a0 a1 a2 a3 a4 n = false) := vOrd_bad hlt (fun hh => by rw [hv] at hh; exact absurd hh.1 (by decide))
          rw [hv] at CV
          clear hv
          go_at_call 61
          refine (CV _).mono ?_
          rintro e w1 ⟨rfl, hb1⟩
          go_wp2_with fail
          go_ret
          exact ⟨ret_bool hg.out.symm, hbt.trans (hb1.mono hbt.size)⟩
        · rw [hv] at CV
          have hvk := mkhid hv
          clear hv
          by_cases hd : AllTo (lnI a0 a1 a2 a3 k) k
          · have hF : fstB (smA a0 a1 a2 a3 (a0 k) (a1 k) (a2 k) (a3 k)) n = (k : Int) := fstB_at hlt hsame (fun j hj => by have := hd j hj; unfold lnI at this; unfold smA; simpa using this)
            simp only [hF] at CF
            clear hF hsame
            have d2 : ((k : Int) != (k : Int)) = false := by simp
            have HD := mkhid hd
            clear hd
            by_cases hc : 1 ≤ a4 k
            · by_cases hc2 : a4 k ≤ 24 - ctS a4 k
              · have d3 : decide (a4 k < 1) = false := decide_eq_false (by omega)
                have d4 : decide (24 - ctS a4 k < a4 k) = false := decide_eq_false (by omega)
                have hsucc := mkhid (ctS_succ a4 k)
                have hok := mkhid (HB.out.succ (lnOk_iff.2 ⟨hvk.out, ⟨hc, by omega⟩, HD.out⟩))
                have hle2 : Hid (ctS a4 (k + 1) ≤ 24) := by show _ ≤ _; rw [ctS_succ]; omega
                go_at_call 61
                refine (CV _).mono ?_
                rintro e w1 ⟨rfl, hb1⟩
                obtain ⟨f0, f1, f2, f3, f4⟩ := five_stay hb1 htl t0 t1 t2 t3 t4
                have hB1 : Below w.heap.size w w1 := hbt.trans (hb1.mono hbt.size)
                have hl1 : wr.heap.size < w1.heap.size := Nat.lt_of_lt_of_le htl hb1.size
                clear t0 t1 t2 t3 t4 hb1 hbt hbr
                go_wp2_with fail
                go_at_call 65
                refine (CF _ hB1).mono ?_
                rintro e w2 ⟨rfl, hb2⟩
                obtain ⟨g0, g1, g2, g3, g4⟩ := five_stay hb2 hl1 f0 f1 f2 f3 f4
                have hB2 : Below w.heap.size w w2 := hB1.trans (hb2.mono hB1.size)
                clear f0 f1 f2 f3 f4 hb2 hB1
                go_wp2_with fail
                go_roundw
                case rel => exact ⟨k + 1, by omega, by go_num, by rw [hsucc.out]; go_num, hle2.out, hok, hB2⟩
                case measure => simp [intOf]; omega
              · have hg : Hid (vOrd a0 a1 a2 a3 a4 n = false) := vOrd_over hlt (by omega)
                have d3 : decide (a4 k < 1) = false := decide_eq_false (by omega)
                have d4 : decide (24 - ctS a4 k < a4 k) = true := decide_eq_true (by omega)
                go_at_call 61
                refine (CV _).mono ?_
                rintro e w1 ⟨rfl, hb1⟩
                obtain ⟨f0, f1, f2, f3, f4⟩ := five_stay hb1 htl t0 t1 t2 t3 t4
                have hB1 : Below w.heap.size w w1 := hbt.trans (hb1.mono hbt.size)
                have hl1 : wr.heap.size < w1.heap.size := Nat.lt_of_lt_of_le htl hb1.size
                clear t0 t1 t2 t3 t4 hb1 hbt hbr
                go_wp2_with fail
                go_at_call 65
                refine (CF _ hB1).mono ?_
                rintro e w2 ⟨rfl, hb2⟩
                obtain ⟨g0, g1, g2, g3, g4⟩ := five_stay hb2 hl1 f0 f1 f2 f3 f4
                have hB2 : Below w.heap.size w w2 := hB1.trans (hb2.mono hB1.size)
                clear f0 f1 f2 f3 f4 hb2 hB1
                go_wp2_with fail
                go_ret
                exact ⟨ret_bool hg.out.symm, hB2⟩
            · have hg : Hid (vOrd a0 a1 a2 a3 a4 n = false) := vOrd_bad hlt (fun hh => hc hh.2.1.1)
              have d3 : decide (a4 k < 1) = true := decide_eq_true (by omega)
              go_at_call 61
              refine (CV _).mono ?_
              rintro e w1 ⟨rfl, hb1⟩
              obtain ⟨f0, f1, f2, f3, f4⟩ := five_stay hb1 htl t0 t1 t2 t3 t4
              have hB1 : Below w.heap.size w w1 := hbt.trans (hb1.mono hbt.size)
              have hl1 : wr.heap.size < w1.heap.size := Nat.lt_of_lt_of_le htl hb1.size
              clear t0 t1 t2 t3 t4 hb1 hbt hbr
              go_wp2_with fail
              go_at_call 65
              refine (CF _ hB1).mono ?_
              rintro e w2 ⟨rfl, hb2⟩
              obtain ⟨g0, g1, g2, g3, g4⟩ := five_stay hb2 hl1 f0 f1 f2 f3 f4
              have hB2 : Below w.heap.size w w2 := hB1.trans (hb2.mono hB1.size)
              clear f0 f1 f2 f3 f4 hb2 hB1
              go_wp2_with fail
              go_ret
              exact ⟨ret_bool hg.out.symm, hB2⟩
          · have hg : Hid (vOrd a0 a1 a2 a3 a4 n = false) := vOrd_bad hlt (fun hh => hd hh.2.2)
            have hx : ∃ j, j < k ∧ samP (a0 j) (a1 j) (a2 j) (a3 j) (a0 k) (a1 k) (a2 k) (a3 k) = true := by
              apply Classical.byContradiction
              intro hno
              apply hd
              intro j hj
              unfold lnI
              cases hs : samP (a0 j) (a1 j) (a2 j) (a3 j) (a0 k) (a1 k) (a2 k) (a3 k)
              · rfl
              · exact absurd ⟨j, hj, hs⟩ hno
            obtain ⟨j, hj, hs⟩ := hx
            obtain ⟨m, hm, hF⟩ := fstB_lt (p := smA a0 a1 a2 a3 (a0 k) (a1 k) (a2 k) (a3 k)) (n := n) (j := j) (by omega) hs
            simp only [hF] at CF
            have d2 : ((m : Int) != (k : Int)) = true := by simp; omega
            clear hF hd hs hsame
            go_at_call 61
            refine (CV _).mono ?_
            rintro e w1 ⟨rfl, hb1⟩
            obtain ⟨f0, f1, f2, f3, f4⟩ := five_stay hb1 htl t0 t1 t2 t3 t4
            have hB1 : Below w.heap.size w w1 := hbt.trans (hb1.mono hbt.size)
            have hl1 : wr.heap.size < w1.heap.size := Nat.lt_of_lt_of_le htl hb1.size
            clear t0 t1 t2 t3 t4 hb1 hbt hbr
            go_wp2_with fail
            go_at_call 65
            refine (CF _ hB1).mono ?_
            rintro e w2 ⟨rfl, hb2⟩
            obtain ⟨g0, g1, g2, g3, g4⟩ := five_stay hb2 hl1 f0 f1 f2 f3 f4
            have hB2 : Below w.heap.size w w2 := hB1.trans (hb2.mono hB1.size)
            clear f0 f1 f2 f3 f4 hb2 hB1
            go_wp2_with fail
            go_ret
            exact ⟨ret_bool hg.out.symm, hB2⟩
      · have hkn := mkhid (show k = n by omega)
        have hg : Hid (vOrd a0 a1 a2 a3 a4 n = true) := vOrd_iff.2 ⟨q, hkn.out ▸ HB.out, hkn.out ▸ hle⟩
        go_wp2
        go_ret
        exact ⟨ret_bool hg.out.symm, hbr⟩
  · have d1 : decide ((8 : Int) < (n : Int)) = true := decide_eq_true (by omega)
    have hg : Hid (vOrd a0 a1 a2 a3 a4 n = false) := vOrd_no (fun hh => q hh.1)
    go_enter Try.func29, Try.ntmps29
    go_wp2_with fail
    go_ret
    exact ⟨ret_bool hg.out.symm, Below.refl _ _⟩
end Go.Proofs.Ytjanjaabcinkiaa
