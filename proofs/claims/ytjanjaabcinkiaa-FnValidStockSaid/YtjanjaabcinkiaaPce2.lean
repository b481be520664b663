/- ValidPiece of impl, szPiece, toPiece, eqPiece of the laws, and the walk of the exact law on ValidPiece; no statement is proved here. -/
import Derived.Test.YtjanjaabcinkiaaPce
namespace Go.Proofs.Ytjanjaabcinkiaa
open Go.ChangeShapes Go.WideShapes Go.ChangeAt Go.RowKit Go.Deep
set_option linter.unusedVariables false
set_option linter.unusedSimpArgs false

theorem vBox_sides {x y : Int} : vBox 0 0 x y = decide (1 ≤ x ∧ x ≤ 200 ∧ 1 ≤ y ∧ y ≤ 200) := by
  unfold vBox
  rw [decide_eq_decide]
  omega
theorem insB_fl {a0 a1 a2 a3 : Nat → Int} {x y : Int} {i : Nat} (h : 1 ≤ x ∧ x ≤ 200 ∧ 1 ≤ y ∧ y ≤ 200) : insB (a0 i) (a1 i) (a2 i) (a3 i) 0 0 x y = flS a0 a1 a2 a3 x y i := by
  unfold insB flS
  rw [vBox_sides, decide_eq_true h, Bool.true_and]
set_option maxHeartbeats 1600000 in
theorem impl_ValidPiece_s {b off n cap : Nat} {a0 a1 a2 a3 : Nat → Int} {w : World} {l x y : Int} (h : RSl w b off n cap 4 (boxF a0 a1 a2 a3)) :
    Calls Try.prog 43 #[(.agg #[.int .i64 l, .int .i64 x, .int .i64 y, .slice (some ⟨b, off, none⟩) n cap])] w (Rt (.bool (vPiece l x y a0 a1 a2 a3 n)) w) := by
  have hsm := h.small
  have hwb := h.lt
  have CV := fun W => impl_ValidBox_c 0 0 x y W
  by_cases h1 : 1 ≤ l ∧ l ≤ 9999
  · by_cases h2 : 1 ≤ x ∧ x ≤ 200 ∧ 1 ≤ y ∧ y ≤ 200
    · have hE := mkhid (vPiece_eq (a0 := a0) (a1 := a1) (a2 := a2) (a3 := a3) (n := n) (show (1 ≤ l ∧ l ≤ 9999) ∧ (1 ≤ x ∧ x ≤ 200) ∧ (1 ≤ y ∧ y ≤ 200) from ⟨h1, ⟨h2.1, h2.2.1⟩, h2.2.2⟩))
      have HI := fun i => insB_fl (a0 := a0) (a1 := a1) (a2 := a2) (a3 := a3) (i := i) h2
      rw [vBox_sides, decide_eq_true h2] at CV
      obtain ⟨l1, l2⟩ := h1
      clear h2
      rw [hE.out]
      clear hE
      by_cases q : n ≤ 6
      · have d1 : decide ((6 : Int) < (n : Int)) = false := decide_eq_false (by omega)
        go_enter Try.func43, Try.ntmps43
        go_wp2_with fail
        go_at_call 77
        refine (impl_pieceBox_c _ _ _ _ _).mono ?_
        rintro e w1 ⟨rfl, hb1⟩
        obtain ⟨hc1, hf1, -, hz1⟩ := bcell hb1
        (try simp at hz1)
        (try (have y1 : w.heap.size ≤ w1.heap.size := by omega))
        (try (have z1_0_0 : w.heap.size < w1.heap.size := by omega))
        (try (have z1_0_1 : w.heap.size + 1 < w1.heap.size := by omega))
        (try (have z1_0_2 : w.heap.size + 1 + 1 < w1.heap.size := by omega))
        (try (have z1_0_3 : w.heap.size + 1 + 1 + 1 < w1.heap.size := by omega))
        go_wp2_with fail
        go_at_call 76
        refine (CV _).mono ?_
        rintro e w2 ⟨rfl, hb2⟩
        obtain ⟨hc2, hf2, -, hz2⟩ := bcell hb2
        (try simp at hz2)
        (try (have y2 : w.heap.size ≤ w2.heap.size := by omega))
        (try (have z2_0_0 : w.heap.size < w2.heap.size := by omega))
        (try (have z2_0_1 : w.heap.size + 1 < w2.heap.size := by omega))
        (try (have z2_0_2 : w.heap.size + 1 + 1 < w2.heap.size := by omega))
        (try (have z2_0_3 : w.heap.size + 1 + 1 + 1 < w2.heap.size := by omega))
        (try (have z2_1_0 : w1.heap.size < w2.heap.size := by omega))
        (try (have z2_1_1 : w1.heap.size + 1 < w2.heap.size := by omega))
        go_wp2_with fail
        have q0 : w2.cell? ⟨w.heap.size, 0, none⟩ = some (.int .i64 l) := by go_simp
        have q1 : w2.cell? ⟨w.heap.size, 1, none⟩ = some (.int .i64 x) := by go_simp
        have q2 : w2.cell? ⟨w.heap.size, 2, none⟩ = some (.int .i64 y) := by go_simp
        have q3 : w2.cell? ⟨w.heap.size, 3, none⟩ = some (.slice (some ⟨b, off, none⟩) n cap) := by go_simp
        have hB2 : Below w.heap.size w w2 := (by repeat' (first | with_reducible exact Below.refl _ _ | with_reducible refine Below.alloc ?_ (by first | omega | (simp; done) | (simp; omega)) _ | with_reducible refine Below.drew ?_ | with_reducible refine below_drewN ?_ _ | with_reducible refine Below.setCell ?_ (by first | omega | (simp; done) | (simp; omega)) _ | with_reducible refine Below.grown ?_ (by assumption) (by first | omega | (simp; done) | (simp; omega)) (by intro k hk; cases hk; omega) | with_reducible refine Below.trans ?_ (Below.mono (by assumption) (by first | omega | (simp; done) | (simp; omega)))))
        have hgl : w.heap.size < w2.heap.size := by omega
        obtain ⟨g, hg0⟩ : ∃ g, g = w.heap.size := ⟨_, rfl⟩
        go_loopw [28] (fun i wr => ∃ k : Nat, k ≤ n ∧ i = .int .i64 k ∧ Hid (AllTo (flS a0 a1 a2 a3 x y) k) ∧ Below w2.heap.size w2 wr) (fun i _ => n - (intOf i).toNat)
        case atStart => exact ⟨0, Nat.zero_le _, rfl, AllTo.zero _, Below.refl _ _⟩
        case round =>
          obtain ⟨k, hk, rfl, HB, hbr⟩ := hrel
          have hsz := hbr.size
          have hbw : Below w.heap.size w wr := hB2.trans (hbr.mono hB2.size)
          have r0 := (hbr.cell (p := ⟨w.heap.size, 0, none⟩) hgl).trans q0
          have r1 := (hbr.cell (p := ⟨w.heap.size, 1, none⟩) hgl).trans q1
          have r2 := (hbr.cell (p := ⟨w.heap.size, 2, none⟩) hgl).trans q2
          have r3 := (hbr.cell (p := ⟨w.heap.size, 3, none⟩) hgl).trans q3
          clear q0 q1 q2 q3 hc1 hc2 hf1 hf2 hb1 hb2 hB2
          by_cases hlt : k < n
          · have i1 : (0 : Int) ≤ (k : Int) := by omega
            have i2 : (k : Int) < (n : Int) := by omega
            have hlb : b < wr.heap.size := by omega
            have hgb : w.heap.size < wr.heap.size := by omega
            have hgn : ¬ (w.heap.size = wr.heap.size) := by omega
            have hgn2 : ¬ (wr.heap.size = w.heap.size) := by omega
            obtain ⟨c0, c1, c2, c3⟩ := box_cells (h.below hbw) hlt
            have CI := fun W => impl_InsideOf_c (a0 k) (a1 k) (a2 k) (a3 k) 0 0 x y W
            rw [HI k] at CI
            go_wp2_with fail
            obtain ⟨wt, hwt⟩ : ∃ wt : World, wt = wr.alloc (.cells #[(.int .i64 (a0 k)), (.int .i64 (a1 k)), (.int .i64 (a2 k)), (.int .i64 (a3 k))] 78) := ⟨_, rfl⟩
            have t0 : wt.cell? ⟨wr.heap.size, 0, none⟩ = some (.int .i64 (a0 k)) := by rw [hwt, World.cell?_alloc_at _ _ _ _ rfl]; rfl
            have t1 : wt.cell? ⟨wr.heap.size, 1, none⟩ = some (.int .i64 (a1 k)) := by rw [hwt, World.cell?_alloc_at _ _ _ _ rfl]; rfl
            have t2 : wt.cell? ⟨wr.heap.size, 2, none⟩ = some (.int .i64 (a2 k)) := by rw [hwt, World.cell?_alloc_at _ _ _ _ rfl]; rfl
            have t3 : wt.cell? ⟨wr.heap.size, 3, none⟩ = some (.int .i64 (a3 k)) := by rw [hwt, World.cell?_alloc_at _ _ _ _ rfl]; rfl
            have u0 : wt.cell? ⟨w.heap.size, 0, none⟩ = some (.int .i64 l) := by rw [hwt, World.cell?_alloc_past _ _ _ hgb]; exact r0
            have u1 : wt.cell? ⟨w.heap.size, 1, none⟩ = some (.int .i64 x) := by rw [hwt, World.cell?_alloc_past _ _ _ hgb]; exact r1
            have u2 : wt.cell? ⟨w.heap.size, 2, none⟩ = some (.int .i64 y) := by rw [hwt, World.cell?_alloc_past _ _ _ hgb]; exact r2
            have u3 : wt.cell? ⟨w.heap.size, 3, none⟩ = some (.slice (some ⟨b, off, none⟩) n cap) := by rw [hwt, World.cell?_alloc_past _ _ _ hgb]; exact r3
            have hbt : Below w2.heap.size w2 wt := by rw [hwt]; exact hbr.alloc hsz _
            have hbt2 : Below w.heap.size w wt := by rw [hwt]; exact hbw.alloc (by omega) _
            rw [← hwt]
            clear hwt
            have F0 := fun z : Bw wt => z.cell t0
            have F1 := fun z : Bw wt => z.cell t1
            have F2 := fun z : Bw wt => z.cell t2
            have F3 := fun z : Bw wt => z.cell t3
            have G0 := fun z : Bw wt => z.cell u0
            have G1 := fun z : Bw wt => z.cell u1
            have G2 := fun z : Bw wt => z.cell u2
            have G3 := fun z : Bw wt => z.cell u3
            cases hv : flS a0 a1 a2 a3 x y k
            · have hg : Hid (allB (flS a0 a1 a2 a3 x y) 6 n = false) := allB_bad hlt hv
              rw [hv] at CI
              clear hv hbr hbw
              refine region_bw (W := wt) (by kernel_rfl) (by kernel_rfl) (Below.refl _ _) ?_
              repeat (go_big_quiet_step ((first | (go_at_call 77; exact calls_bw (impl_pieceBox_c _ _ _ _ _)) | (go_at_call 78; exact calls_bw (CI _)))))
              refine wpQuiet_nil ?_
              rintro _ ⟨⟨wz, hbwz⟩, rfl⟩
              (try dsimp only)
              clear hbt
              go_wp2
              go_ret
              exact ⟨ret_bool hg.out.symm, hbt2.trans (hbwz.mono hbt2.size)⟩
            · have hok := mkhid (HB.out.succ hv)
              rw [hv] at CI
              clear hv hbr hbw
              refine region_bw (W := wt) (by kernel_rfl) (by kernel_rfl) (Below.refl _ _) ?_
              repeat (go_big_quiet_step ((first | (go_at_call 77; exact calls_bw (impl_pieceBox_c _ _ _ _ _)) | (go_at_call 78; exact calls_bw (CI _)))))
              refine wpQuiet_nil ?_
              rintro _ ⟨⟨wz, hbwz⟩, rfl⟩
              (try dsimp only)
              go_wp2_with fail
              go_roundw
              case rel => exact ⟨k + 1, by omega, by go_num, hok, hbt.trans (hbwz.mono hbt.size)⟩
              case measure => simp [intOf]; omega
          · have hkn := mkhid (show k = n by omega)
            have hg : Hid (allB (flS a0 a1 a2 a3 x y) 6 n = true) := allB_iff.2 ⟨q, hkn.out ▸ HB.out⟩
            go_wp2
            go_ret
            exact ⟨ret_bool hg.out.symm, hbw⟩
      · have d1 : decide ((6 : Int) < (n : Int)) = true := decide_eq_true (by omega)
        have hg : Hid (allB (flS a0 a1 a2 a3 x y) 6 n = false) := allB_many q
        go_enter Try.func43, Try.ntmps43
        go_wp2_with fail
        go_at_call 77
        refine (impl_pieceBox_c _ _ _ _ _).mono ?_
        rintro e w1 ⟨rfl, hb1⟩
        obtain ⟨hc1, hf1, -, hz1⟩ := bcell hb1
        (try simp at hz1)
        (try (have y1 : w.heap.size ≤ w1.heap.size := by omega))
        (try (have z1_0_0 : w.heap.size < w1.heap.size := by omega))
        (try (have z1_0_1 : w.heap.size + 1 < w1.heap.size := by omega))
        (try (have z1_0_2 : w.heap.size + 1 + 1 < w1.heap.size := by omega))
        (try (have z1_0_3 : w.heap.size + 1 + 1 + 1 < w1.heap.size := by omega))
        go_wp2_with fail
        go_at_call 76
        refine (CV _).mono ?_
        rintro e w2 ⟨rfl, hb2⟩
        obtain ⟨hc2, hf2, -, hz2⟩ := bcell hb2
        (try simp at hz2)
        (try (have y2 : w.heap.size ≤ w2.heap.size := by omega))
        (try (have z2_0_0 : w.heap.size < w2.heap.size := by omega))
        (try (have z2_0_1 : w.heap.size + 1 < w2.heap.size := by omega))
        (try (have z2_0_2 : w.heap.size + 1 + 1 < w2.heap.size := by omega))
        (try (have z2_0_3 : w.heap.size + 1 + 1 + 1 < w2.heap.size := by omega))
        (try (have z2_1_0 : w1.heap.size < w2.heap.size := by omega))
        (try (have z2_1_1 : w1.heap.size + 1 < w2.heap.size := by omega))
        go_wp2_with fail
        go_ret
        exact ⟨ret_bool hg.out.symm, (by repeat' (first | with_reducible exact Below.refl _ _ | with_reducible refine Below.alloc ?_ (by first | omega | (simp; done) | (simp; omega)) _ | with_reducible refine Below.drew ?_ | with_reducible refine below_drewN ?_ _ | with_reducible refine Below.setCell ?_ (by first | omega | (simp; done) | (simp; omega)) _ | with_reducible refine Below.grown ?_ (by assumption) (by first | omega | (simp; done) | (simp; omega)) (by intro k hk; cases hk; omega) | with_reducible refine Below.trans ?_ (Below.mono (by assumption) (by first | omega | (simp; done) | (simp; omega)))))⟩
    · have hg : Hid (vPiece l x y a0 a1 a2 a3 n = false) := vPiece_no (fun hh => h2 ⟨hh.2.1.1, hh.2.1.2, hh.2.2⟩)
      rw [vBox_sides, decide_eq_false h2] at CV
      obtain ⟨l1, l2⟩ := h1
      clear h2
      go_enter Try.func43, Try.ntmps43
      go_wp2_with fail
      go_at_call 77
      refine (impl_pieceBox_c _ _ _ _ _).mono ?_
      rintro e w1 ⟨rfl, hb1⟩
      obtain ⟨hc1, hf1, -, hz1⟩ := bcell hb1
      (try simp at hz1)
      (try (have y1 : w.heap.size ≤ w1.heap.size := by omega))
      (try (have z1_0_0 : w.heap.size < w1.heap.size := by omega))
      (try (have z1_0_1 : w.heap.size + 1 < w1.heap.size := by omega))
      (try (have z1_0_2 : w.heap.size + 1 + 1 < w1.heap.size := by omega))
      (try (have z1_0_3 : w.heap.size + 1 + 1 + 1 < w1.heap.size := by omega))
      go_wp2_with fail
      go_at_call 76
      refine (CV _).mono ?_
      rintro e w2 ⟨rfl, hb2⟩
      obtain ⟨hc2, hf2, -, hz2⟩ := bcell hb2
      (try simp at hz2)
      (try (have y2 : w.heap.size ≤ w2.heap.size := by omega))
      (try (have z2_0_0 : w.heap.size < w2.heap.size := by omega))
      (try (have z2_0_1 : w.heap.size + 1 < w2.heap.size := by omega))
      (try (have z2_0_2 : w.heap.size + 1 + 1 < w2.heap.size := by omega))
      (try (have z2_0_3 : w.heap.size + 1 + 1 + 1 < w2.heap.size := by omega))
      (try (have z2_1_0 : w1.heap.size < w2.heap.size := by omega))
      (try (have z2_1_1 : w1.heap.size + 1 < w2.heap.size := by omega))
      go_wp2_with fail
      go_ret
      exact ⟨ret_bool hg.out.symm, (by repeat' (first | with_reducible exact Below.refl _ _ | with_reducible refine Below.alloc ?_ (by first | omega | (simp; done) | (simp; omega)) _ | with_reducible refine Below.drew ?_ | with_reducible refine below_drewN ?_ _ | with_reducible refine Below.setCell ?_ (by first | omega | (simp; done) | (simp; omega)) _ | with_reducible refine Below.grown ?_ (by assumption) (by first | omega | (simp; done) | (simp; omega)) (by intro k hk; cases hk; omega) | with_reducible refine Below.trans ?_ (Below.mono (by assumption) (by first | omega | (simp; done) | (simp; omega)))))⟩
  · have hg : Hid (vPiece l x y a0 a1 a2 a3 n = false) := vPiece_no (fun hh => h1 hh.1)
    rw [hg.out]
    clear hg CV
    by_cases hl : l < 1
    · go_enter Try.func43, Try.ntmps43
      go_wp2_with fail
      go_ret
      exact ⟨rfl, (by repeat' (first | with_reducible exact Below.refl _ _ | with_reducible refine Below.alloc ?_ (by first | omega | (simp; done) | (simp; omega)) _ | with_reducible refine Below.drew ?_ | with_reducible refine below_drewN ?_ _ | with_reducible refine Below.setCell ?_ (by first | omega | (simp; done) | (simp; omega)) _ | with_reducible refine Below.grown ?_ (by assumption) (by first | omega | (simp; done) | (simp; omega)) (by intro k hk; cases hk; omega) | with_reducible refine Below.trans ?_ (Below.mono (by assumption) (by first | omega | (simp; done) | (simp; omega)))))⟩
    · have hl2 : 9999 < l := by omega
      go_enter Try.func43, Try.ntmps43
      go_wp2_with fail
      go_ret
      exact ⟨rfl, (by repeat' (first | with_reducible exact Below.refl _ _ | with_reducible refine Below.alloc ?_ (by first | omega | (simp; done) | (simp; omega)) _ | with_reducible refine Below.drew ?_ | with_reducible refine below_drewN ?_ _ | with_reducible refine Below.setCell ?_ (by first | omega | (simp; done) | (simp; omega)) _ | with_reducible refine Below.grown ?_ (by assumption) (by first | omega | (simp; done) | (simp; omega)) (by intro k hk; cases hk; omega) | with_reducible refine Below.trans ?_ (Below.mono (by assumption) (by first | omega | (simp; done) | (simp; omega)))))⟩
/-- a piece that is returned, its flaws in new memory -/
def FrP (l x y : Int) (n : Nat) (f : Nat → Nat → Value) (w : World) : Ending → World → Prop := fun e w' => ∃ g, e = .returned (.agg #[.int .i64 l, .int .i64 x, .int .i64 y, .slice (some ⟨g, 0, none⟩) n n]) ∧ RSl w' g 0 n n 4 f ∧ Below w.heap.size w w'
theorem szPiece_c (l x y : Int) (p : Option Addr) (n cap : Nat) (left : Int) (w : World) (hn : n ≤ maxLen) (hl : 0 ≤ left ∧ left ≤ 2000000) : Calls Try.prog 40 #[(.agg #[.int .i64 l, .int .i64 x, .int .i64 y, .slice p n cap]), (.int .i64 left)] w (Rt (.int .i64 (if (n : Int) ≤ left then left - n else -1)) w) := by
  have hm := hn
  unfold maxLen at hm
  have CS := fun W => rs_rt (szBoxS_c p n cap left W hn hl)
  obtain ⟨hl1, hl2⟩ := hl
  by_cases h : (n : Int) ≤ left
  · have d1 : decide (left - (n : Int) < 0) = false := decide_eq_false (by omega)
    rw [if_pos h] at CS ⊢
    go_enter Try.func40, Try.ntmps40
    go_wp2_with (go_at_call 33; refine (CS _).mono ?_; rintro e w1 ⟨rfl, hb1⟩; obtain ⟨hc1, hf1, -, hz1⟩ := bcell hb1; (try simp at hz1); (try (have zw0 : w.heap.size < w1.heap.size := by omega)); (try (have zw1 : w.heap.size + 1 < w1.heap.size := by omega)); (try (have zw2 : w.heap.size + 1 + 1 < w1.heap.size := by omega)); (try (have zw3 : w.heap.size + 1 + 1 + 1 < w1.heap.size := by omega)); (try (have zw4 : w.heap.size + 1 + 1 + 1 + 1 < w1.heap.size := by omega)); (try (have zw5 : w.heap.size + 1 + 1 + 1 + 1 + 1 < w1.heap.size := by omega)))
    go_ret
    exact ⟨rfl, (by repeat' (first | with_reducible exact Below.refl _ _ | with_reducible refine Below.alloc ?_ (by first | omega | (simp; done) | (simp; omega)) _ | with_reducible refine Below.drew ?_ | with_reducible refine below_drewN ?_ _ | with_reducible refine Below.setCell ?_ (by first | omega | (simp; done) | (simp; omega)) _ | with_reducible refine Below.grown ?_ (by assumption) (by first | omega | (simp; done) | (simp; omega)) (by intro k hk; cases hk; omega) | with_reducible refine Below.trans ?_ (Below.mono (by assumption) (by first | omega | (simp; done) | (simp; omega)))))⟩
  · rw [if_neg h] at CS ⊢
    go_enter Try.func40, Try.ntmps40
    go_wp2_with (go_at_call 33; refine (CS _).mono ?_; rintro e w1 ⟨rfl, hb1⟩; obtain ⟨hc1, hf1, -, hz1⟩ := bcell hb1; (try simp at hz1); (try (have zw0 : w.heap.size < w1.heap.size := by omega)); (try (have zw1 : w.heap.size + 1 < w1.heap.size := by omega)); (try (have zw2 : w.heap.size + 1 + 1 < w1.heap.size := by omega)); (try (have zw3 : w.heap.size + 1 + 1 + 1 < w1.heap.size := by omega)); (try (have zw4 : w.heap.size + 1 + 1 + 1 + 1 < w1.heap.size := by omega)); (try (have zw5 : w.heap.size + 1 + 1 + 1 + 1 + 1 < w1.heap.size := by omega)))
    go_ret
    exact ⟨rfl, (by repeat' (first | with_reducible exact Below.refl _ _ | with_reducible refine Below.alloc ?_ (by first | omega | (simp; done) | (simp; omega)) _ | with_reducible refine Below.drew ?_ | with_reducible refine below_drewN ?_ _ | with_reducible refine Below.setCell ?_ (by first | omega | (simp; done) | (simp; omega)) _ | with_reducible refine Below.grown ?_ (by assumption) (by first | omega | (simp; done) | (simp; omega)) (by intro k hk; cases hk; omega) | with_reducible refine Below.trans ?_ (Below.mono (by assumption) (by first | omega | (simp; done) | (simp; omega)))))⟩
theorem toPiece_c (l x y : Int) (v : Value) (n : Nat) (a0 a1 a2 a3 : Nat → Int) (w : World) (hv : RISl w v n 4 (boxF a0 a1 a2 a3)) (hn : n ≤ 1048576) : Calls Try.prog 42 #[(.agg #[.int .i64 l, .int .i64 x, .int .i64 y, v])] w (FrP l x y n (boxF a0 a1 a2 a3) w) := by
  have hv' := hv
  obtain ⟨p, cap, rfl, _⟩ := hv'
  go_enter Try.func42, Try.ntmps42
  go_wp2_with fail
  go_at_call 35
  refine (toBoxS_c _ n a0 a1 a2 a3 _ (hv.below (by repeat' (first | with_reducible exact Below.refl _ _ | with_reducible refine Below.alloc ?_ (by first | omega | (simp; done) | (simp; omega)) _ | with_reducible refine Below.drew ?_ | with_reducible refine below_drewN ?_ _ | with_reducible refine Below.setCell ?_ (by first | omega | (simp; done) | (simp; omega)) _ | with_reducible refine Below.grown ?_ (by assumption) (by first | omega | (simp; done) | (simp; omega)) (by intro k hk; cases hk; omega) | with_reducible refine Below.trans ?_ (Below.mono (by assumption) (by first | omega | (simp; done) | (simp; omega)))))) hn).mono ?_
  rintro e w1 ⟨g, rfl, lg, j1, hb1⟩
  obtain ⟨hc1, hf1, -, hz1⟩ := bcell hb1
  (try simp at hz1)
  (try (have y1 : w.heap.size ≤ w1.heap.size := by omega))
  (try (have z1_0_0 : w.heap.size < w1.heap.size := by omega))
  (try (have z1_0_1 : w.heap.size + 1 < w1.heap.size := by omega))
  (try (have z1_0_2 : w.heap.size + 1 + 1 < w1.heap.size := by omega))
  (try (have z1_0_3 : w.heap.size + 1 + 1 + 1 < w1.heap.size := by omega))
  go_wp2_with fail
  simp at lg
  refine bodyPost_ret (v := (.agg #[.int .i64 l, .int .i64 x, .int .i64 y, .slice (some ⟨g, 0, none⟩) n n])) (by simp [results, Try.results42, go_sem, *]) rfl ⟨g, rfl, ?_, ?_⟩
  · repeat (first | exact j1 | refine RSl.set ?_ (by omega) _ _)
  · exact (by repeat' (first | with_reducible exact Below.refl _ _ | with_reducible refine Below.alloc ?_ (by first | omega | (simp; done) | (simp; omega)) _ | with_reducible refine Below.drew ?_ | with_reducible refine below_drewN ?_ _ | with_reducible refine Below.setCell ?_ (by first | omega | (simp; done) | (simp; omega)) _ | with_reducible refine Below.grown ?_ (by assumption) (by first | omega | (simp; done) | (simp; omega)) (by intro k hk; cases hk; omega) | with_reducible refine Below.trans ?_ (Below.mono (by assumption) (by first | omega | (simp; done) | (simp; omega)))))
theorem eqPiece_c {l x y : Int} {b off n cap b' off' cap' : Nat} {a0 a1 a2 a3 : Nat → Int} {w : World} (h : RSl w b off n cap 4 (boxF a0 a1 a2 a3)) (h' : RSl w b' off' n cap' 4 (boxF a0 a1 a2 a3)) :
    Calls Try.prog 44 #[(.agg #[.int .i64 l, .int .i64 x, .int .i64 y, .slice (some ⟨b, off, none⟩) n cap]), (.agg #[.int .i64 l, .int .i64 x, .int .i64 y, .slice (some ⟨b', off', none⟩) n cap'])] w (Rt (.bool true) w) := by
  go_enter Try.func44, Try.ntmps44
  go_wp2_with (go_at_call 37; refine (eqBoxS_same (h.below (by repeat' (first | with_reducible exact Below.refl _ _ | with_reducible refine Below.alloc ?_ (by first | omega | (simp; done) | (simp; omega)) _ | with_reducible refine Below.drew ?_ | with_reducible refine below_drewN ?_ _ | with_reducible refine Below.setCell ?_ (by first | omega | (simp; done) | (simp; omega)) _ | with_reducible refine Below.grown ?_ (by assumption) (by first | omega | (simp; done) | (simp; omega)) (by intro k hk; cases hk; omega) | with_reducible refine Below.trans ?_ (Below.mono (by assumption) (by first | omega | (simp; done) | (simp; omega)))))) (h'.below (by repeat' (first | with_reducible exact Below.refl _ _ | with_reducible refine Below.alloc ?_ (by first | omega | (simp; done) | (simp; omega)) _ | with_reducible refine Below.drew ?_ | with_reducible refine below_drewN ?_ _ | with_reducible refine Below.setCell ?_ (by first | omega | (simp; done) | (simp; omega)) _ | with_reducible refine Below.grown ?_ (by assumption) (by first | omega | (simp; done) | (simp; omega)) (by intro k hk; cases hk; omega) | with_reducible refine Below.trans ?_ (Below.mono (by assumption) (by first | omega | (simp; done) | (simp; omega))))))).mono ?_; rintro e w1 ⟨rfl, hb1⟩; obtain ⟨hc1, hf1, -, hz1⟩ := bcell hb1; (try simp at hz1); (try (have zw0 : w.heap.size < w1.heap.size := by omega)); (try (have zw1 : w.heap.size + 1 < w1.heap.size := by omega)); (try (have zw2 : w.heap.size + 1 + 1 < w1.heap.size := by omega)); (try (have zw3 : w.heap.size + 1 + 1 + 1 < w1.heap.size := by omega)); (try (have zw4 : w.heap.size + 1 + 1 + 1 + 1 < w1.heap.size := by omega)); (try (have zw5 : w.heap.size + 1 + 1 + 1 + 1 + 1 < w1.heap.size := by omega)))
  go_ret
  exact ⟨rfl, (by repeat' (first | with_reducible exact Below.refl _ _ | with_reducible refine Below.alloc ?_ (by first | omega | (simp; done) | (simp; omega)) _ | with_reducible refine Below.drew ?_ | with_reducible refine below_drewN ?_ _ | with_reducible refine Below.setCell ?_ (by first | omega | (simp; done) | (simp; omega)) _ | with_reducible refine Below.grown ?_ (by assumption) (by first | omega | (simp; done) | (simp; omega)) (by intro k hk; cases hk; omega) | with_reducible refine Below.trans ?_ (Below.mono (by assumption) (by first | omega | (simp; done) | (simp; omega)))))⟩
set_option maxHeartbeats 1600000 in
theorem FnExactValidPiece_walk (l x y : Int) (v : Value) (n : Nat) (a0 a1 a2 a3 : Nat → Int) (w : World) (hx : -9223372036854775808 ≤ x ∧ x ≤ 9223372036854775807) (hy : -9223372036854775808 ≤ y ∧ y ≤ 9223372036854775807) (hr : RRaw w v n 4 (boxF a0 a1 a2 a3)) : Calls Try.prog 10 #[(.agg #[.int .i64 l, .int .i64 x, .int .i64 y, v])] w (Rt (.bool true) w) := by
  have CSP := fun (b off n cap : Nat) (a0 a1 a2 a3 : Nat → Int) W hW => spec_ValidPiece_s (w := W) (l := l) hW hx hy (b := b) (off := off) (n := n) (cap := cap) (a0 := a0) (a1 := a1) (a2 := a2) (a3 := a3)
  clear hx hy
  have hr' := hr
  obtain ⟨pp, cap, rfl, hn, _⟩ := hr'
  by_cases hl : n ≤ 1048576
  · have hj := hr.isl hl
    have CS := fun W => szPiece_c l x y pp n cap 1048576 W hn (by omega)
    rw [if_pos (by omega)] at CS
    have d1 : decide ((1048576 : Int) - (n : Int) < 0) = false := decide_eq_false (by omega)
    go_enter Try.func10, Try.ntmps10
    go_wp2_with fail
    go_at_call 40
    refine (CS _).mono ?_
    rintro e w1 ⟨rfl, hb1⟩
    obtain ⟨hc1, hf1, -, hz1⟩ := bcell hb1
    (try simp at hz1)
    (try (have y1 : w.heap.size ≤ w1.heap.size := by omega))
    (try (have z1_0_0 : w.heap.size < w1.heap.size := by omega))
    (try (have z1_0_1 : w.heap.size + 1 < w1.heap.size := by omega))
    (try (have z1_0_2 : w.heap.size + 1 + 1 < w1.heap.size := by omega))
    (try (have z1_0_3 : w.heap.size + 1 + 1 + 1 < w1.heap.size := by omega))
    go_wp2_with fail
    have hB1 : Below w.heap.size w w1 := (by repeat' (first | with_reducible exact Below.refl _ _ | with_reducible refine Below.alloc ?_ (by first | omega | (simp; done) | (simp; omega)) _ | with_reducible refine Below.drew ?_ | with_reducible refine below_drewN ?_ _ | with_reducible refine Below.setCell ?_ (by first | omega | (simp; done) | (simp; omega)) _ | with_reducible refine Below.grown ?_ (by assumption) (by first | omega | (simp; done) | (simp; omega)) (by intro k hk; cases hk; omega) | with_reducible refine Below.trans ?_ (Below.mono (by assumption) (by first | omega | (simp; done) | (simp; omega)))))
    go_at_call 42
    refine (toPiece_c l x y _ n a0 a1 a2 a3 _ (hj.below (by assumption)) hl).mono ?_
    rintro e w2 ⟨g2, rfl, j2, hb2⟩
    obtain ⟨hc2, hf2, -, hz2⟩ := bcell hb2
    (try simp at hz2)
    (try (have y2 : w.heap.size ≤ w2.heap.size := by omega))
    (try (have z2_0_0 : w.heap.size < w2.heap.size := by omega))
    (try (have z2_0_1 : w.heap.size + 1 < w2.heap.size := by omega))
    (try (have z2_0_2 : w.heap.size + 1 + 1 < w2.heap.size := by omega))
    (try (have z2_0_3 : w.heap.size + 1 + 1 + 1 < w2.heap.size := by omega))
    (try (have z2_1_0 : w1.heap.size < w2.heap.size := by omega))
    (try (have z2_1_1 : w1.heap.size + 1 < w2.heap.size := by omega))
    go_wp2_with fail
    have hB2 : Below w.heap.size w w2 := hB1.trans (hb2.mono hB1.size)
    go_at_call 41
    refine (CSP _ _ _ _ _ _ _ _ _ j2).mono ?_
    rintro e w3 ⟨rfl, hb3⟩
    obtain ⟨hc3, hf3, -, hz3⟩ := bcell hb3
    (try simp at hz3)
    (try (have y3 : w.heap.size ≤ w3.heap.size := by omega))
    (try (have z3_0_0 : w.heap.size < w3.heap.size := by omega))
    (try (have z3_0_1 : w.heap.size + 1 < w3.heap.size := by omega))
    (try (have z3_0_2 : w.heap.size + 1 + 1 < w3.heap.size := by omega))
    (try (have z3_0_3 : w.heap.size + 1 + 1 + 1 < w3.heap.size := by omega))
    (try (have z3_1_0 : w1.heap.size < w3.heap.size := by omega))
    (try (have z3_1_1 : w1.heap.size + 1 < w3.heap.size := by omega))
    (try (have z3_2_0 : w2.heap.size < w3.heap.size := by omega))
    (try (have z3_2_1 : w2.heap.size + 1 < w3.heap.size := by omega))
    go_wp2_with fail
    have hB3 : Below w.heap.size w w3 := hB2.trans (hb3.mono hB2.size)
    go_at_call 42
    refine (toPiece_c l x y _ n a0 a1 a2 a3 _ (hj.below (by assumption)) hl).mono ?_
    rintro e w4 ⟨g4, rfl, j4, hb4⟩
    obtain ⟨hc4, hf4, -, hz4⟩ := bcell hb4
    (try simp at hz4)
    (try (have y4 : w.heap.size ≤ w4.heap.size := by omega))
    (try (have z4_0_0 : w.heap.size < w4.heap.size := by omega))
    (try (have z4_0_1 : w.heap.size + 1 < w4.heap.size := by omega))
    (try (have z4_0_2 : w.heap.size + 1 + 1 < w4.heap.size := by omega))
    (try (have z4_0_3 : w.heap.size + 1 + 1 + 1 < w4.heap.size := by omega))
    (try (have z4_1_0 : w1.heap.size < w4.heap.size := by omega))
    (try (have z4_1_1 : w1.heap.size + 1 < w4.heap.size := by omega))
    (try (have z4_2_0 : w2.heap.size < w4.heap.size := by omega))
    (try (have z4_2_1 : w2.heap.size + 1 < w4.heap.size := by omega))
    (try (have z4_3_0 : w3.heap.size < w4.heap.size := by omega))
    (try (have z4_3_1 : w3.heap.size + 1 < w4.heap.size := by omega))
    go_wp2_with fail
    have hB4 : Below w.heap.size w w4 := hB3.trans (hb4.mono hB3.size)
    have z4a : w.heap.size < w4.heap.size + 1 := by omega
    go_at_call 43
    refine (impl_ValidPiece_s (j4.below (by repeat' (first | with_reducible exact Below.refl _ _ | with_reducible refine Below.alloc ?_ (by first | omega | (simp; done) | (simp; omega)) _ | with_reducible refine Below.drew ?_ | with_reducible refine below_drewN ?_ _ | with_reducible refine Below.setCell ?_ (by first | omega | (simp; done) | (simp; omega)) _ | with_reducible refine Below.grown ?_ (by assumption) (by first | omega | (simp; done) | (simp; omega)) (by intro k hk; cases hk; omega) | with_reducible refine Below.trans ?_ (Below.mono (by assumption) (by first | omega | (simp; done) | (simp; omega))))))).mono ?_
    rintro e w5 ⟨rfl, hb5⟩
    obtain ⟨hc5, hf5, -, hz5⟩ := bcell hb5
    (try simp at hz5)
    (try (have y5 : w.heap.size ≤ w5.heap.size := by omega))
    (try (have z5_0_0 : w.heap.size < w5.heap.size := by omega))
    (try (have z5_0_1 : w.heap.size + 1 < w5.heap.size := by omega))
    (try (have z5_0_2 : w.heap.size + 1 + 1 < w5.heap.size := by omega))
    (try (have z5_0_3 : w.heap.size + 1 + 1 + 1 < w5.heap.size := by omega))
    (try (have z5_1_0 : w1.heap.size < w5.heap.size := by omega))
    (try (have z5_1_1 : w1.heap.size + 1 < w5.heap.size := by omega))
    (try (have z5_2_0 : w2.heap.size < w5.heap.size := by omega))
    (try (have z5_2_1 : w2.heap.size + 1 < w5.heap.size := by omega))
    (try (have z5_3_0 : w3.heap.size < w5.heap.size := by omega))
    (try (have z5_3_1 : w3.heap.size + 1 < w5.heap.size := by omega))
    (try (have z5_4_0 : w4.heap.size < w5.heap.size := by omega))
    (try (have z5_4_1 : w4.heap.size + 1 < w5.heap.size := by omega))
    go_wp2_with fail
    have hb5' : Below w4.heap.size w4 w5 := by clear hB1 hB2 hB3 hB4 hb1 hb2 hb3 hb4; exact (by repeat' (first | with_reducible exact Below.refl _ _ | with_reducible refine Below.alloc ?_ (by first | omega | (simp; done) | (simp; omega)) _ | with_reducible refine Below.drew ?_ | with_reducible refine below_drewN ?_ _ | with_reducible refine Below.setCell ?_ (by first | omega | (simp; done) | (simp; omega)) _ | with_reducible refine Below.grown ?_ (by assumption) (by first | omega | (simp; done) | (simp; omega)) (by intro k hk; cases hk; omega) | with_reducible refine Below.trans ?_ (Below.mono (by assumption) (by first | omega | (simp; done) | (simp; omega)))))
    have hB5 : Below w.heap.size w w5 := hB4.trans (hb5'.mono hB4.size)
    have j5 := j4.below hb5'
    clear hB1 hB2 hB3 hB4 hb1 hb2 hb3 hb4
    go_region_with (first | (go_at_call 42; refine (toPiece_c l x y _ n a0 a1 a2 a3 _ (hj.below (by first | exact hB5 | exact Below.drew hB5 | exact below_drewN hB5 _)) hl).mono ?_; rintro e w6 ⟨g6, rfl, j6, hb6⟩; replace hb6 : Below w5.heap.size w5 w6 := (by first | exact hb6 | exact below_und hb6); have hc6 := (bcell hb6).1; have hz6 := hb6.size; (try (have z6_0 : w.heap.size < w6.heap.size := by omega)); (try (have z6_4 : w4.heap.size < w6.heap.size := by omega))) | (go_at_call 44; refine (eqPiece_c (j5.below hb6) j6).mono ?_; rintro e w7 ⟨rfl, hb7⟩; have hB7 : Below w.heap.size w w7 := (hB5.trans (hb6.mono hB5.size)).trans (hb7.mono (Nat.le_trans hB5.size hb6.size))))
    all_goals go_wp2
    all_goals go_ret
    all_goals exact ⟨rfl, hB7⟩
  · have CS := fun W => szPiece_c l x y pp n cap 1048576 W hn (by omega)
    rw [if_neg (by omega)] at CS
    go_enter Try.func10, Try.ntmps10
    go_wp2_with fail
    go_at_call 40
    refine (CS _).mono ?_
    rintro e w1 ⟨rfl, hb1⟩
    obtain ⟨hc1, hf1, -, hz1⟩ := bcell hb1
    (try simp at hz1)
    (try (have y1 : w.heap.size ≤ w1.heap.size := by omega))
    (try (have z1_0_0 : w.heap.size < w1.heap.size := by omega))
    (try (have z1_0_1 : w.heap.size + 1 < w1.heap.size := by omega))
    (try (have z1_0_2 : w.heap.size + 1 + 1 < w1.heap.size := by omega))
    (try (have z1_0_3 : w.heap.size + 1 + 1 + 1 < w1.heap.size := by omega))
    go_wp2_with fail
    go_ret
    exact ⟨rfl, (by repeat' (first | with_reducible exact Below.refl _ _ | with_reducible refine Below.alloc ?_ (by first | omega | (simp; done) | (simp; omega)) _ | with_reducible refine Below.drew ?_ | with_reducible refine below_drewN ?_ _ | with_reducible refine Below.setCell ?_ (by first | omega | (simp; done) | (simp; omega)) _ | with_reducible refine Below.grown ?_ (by assumption) (by first | omega | (simp; done) | (simp; omega)) (by intro k hk; cases hk; omega) | with_reducible refine Below.trans ?_ (Below.mono (by assumption) (by first | omega | (simp; done) | (simp; omega)))))⟩
end Go.Proofs.Ytjanjaabcinkiaa
