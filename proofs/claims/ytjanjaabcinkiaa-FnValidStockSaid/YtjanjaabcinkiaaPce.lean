/- Pieces: validPiece, ValidPiece (spec and impl); no statement is proved here. -/
import Derived.Test.YtjanjaabcinkiaaBoxS
import Derived.Test.YtjanjaabcinkiaaIns
import Derived.Test.YtjanjaabcinkiaaInR
import Derived.Test.YtjanjaabcinkiaaCls
namespace Go.Proofs.Ytjanjaabcinkiaa
open Go.ChangeShapes Go.WideShapes Go.ChangeAt Go.RowKit Go.Deep
set_option linter.unusedVariables false
set_option linter.unusedSimpArgs false

/-- flaw i is right for glass of the sides x and y -/
def flS (a0 a1 a2 a3 : Nat → Int) (x y : Int) (i : Nat) : Bool := vBox (a0 i) (a1 i) (a2 i) (a3 i) && inside (a0 i) (a1 i) (a2 i) (a3 i) 0 0 x y
theorem flS_no1 {a0 a1 a2 a3 : Nat → Int} {x y : Int} {i : Nat} (h : vBox (a0 i) (a1 i) (a2 i) (a3 i) = false) : flS a0 a1 a2 a3 x y i = false := by unfold flS; rw [h]; rfl
theorem flS_no2 {a0 a1 a2 a3 : Nat → Int} {x y : Int} {i : Nat} (h : inside (a0 i) (a1 i) (a2 i) (a3 i) 0 0 x y = false) : flS a0 a1 a2 a3 x y i = false := by unfold flS; rw [h, Bool.and_false]
theorem flS_yes {a0 a1 a2 a3 : Nat → Int} {x y : Int} {i : Nat} (h1 : vBox (a0 i) (a1 i) (a2 i) (a3 i) = true) (h : inside (a0 i) (a1 i) (a2 i) (a3 i) 0 0 x y = true) : flS a0 a1 a2 a3 x y i = true := by unfold flS; rw [h, h1]; rfl
def pceOk (l x y : Int) : Bool := decide ((1 ≤ l ∧ l ≤ 9999) ∧ (1 ≤ x ∧ x ≤ 200) ∧ (1 ≤ y ∧ y ≤ 200))
@[irreducible] def vPiece (l x y : Int) (a0 a1 a2 a3 : Nat → Int) (n : Nat) : Bool := pceOk l x y && allB (flS a0 a1 a2 a3 x y) 6 n
theorem vPiece_no {l x y : Int} {a0 a1 a2 a3 : Nat → Int} {n : Nat} (h : ¬ ((1 ≤ l ∧ l ≤ 9999) ∧ (1 ≤ x ∧ x ≤ 200) ∧ (1 ≤ y ∧ y ≤ 200))) : vPiece l x y a0 a1 a2 a3 n = false := by
  unfold vPiece pceOk; rw [decide_eq_false h]; rfl
theorem vPiece_no2 {l x y : Int} {a0 a1 a2 a3 : Nat → Int} {n : Nat} (h : allB (flS a0 a1 a2 a3 x y) 6 n = false) : vPiece l x y a0 a1 a2 a3 n = false := by unfold vPiece; rw [h, Bool.and_false]
theorem vPiece_eq {l x y : Int} {a0 a1 a2 a3 : Nat → Int} {n : Nat} (h : (1 ≤ l ∧ l ≤ 9999) ∧ (1 ≤ x ∧ x ≤ 200) ∧ (1 ≤ y ∧ y ≤ 200)) : vPiece l x y a0 a1 a2 a3 n = allB (flS a0 a1 a2 a3 x y) 6 n := by
  unfold vPiece pceOk; rw [decide_eq_true h]; rfl
theorem vPiece_iff {l x y : Int} {a0 a1 a2 a3 : Nat → Int} {n : Nat} : vPiece l x y a0 a1 a2 a3 n = true ↔ ((1 ≤ l ∧ l ≤ 9999) ∧ (1 ≤ x ∧ x ≤ 200) ∧ (1 ≤ y ∧ y ≤ 200)) ∧ n ≤ 6 ∧ AllTo (flS a0 a1 a2 a3 x y) n := by
  unfold vPiece pceOk; rw [Bool.and_eq_true, decide_eq_true_eq, allB_iff]
theorem spec_insideOf_0 (ax ay aw ah x y : Int) (w : World) (ha : vBox ax ay aw ah = true) (hx : -9223372036854775808 ≤ x ∧ x ≤ 9223372036854775807) (hy : -9223372036854775808 ≤ y ∧ y ≤ 9223372036854775807) :
    Calls Try.prog 95 #[(.agg #[.int .i64 ax, .int .i64 ay, .int .i64 aw, .int .i64 ah]), (.agg #[.int .i64 0, .int .i64 0, .int .i64 x, .int .i64 y])] w (Rt (.bool (inside ax ay aw ah 0 0 x y)) w) := by
  obtain ⟨a1, a2, a3, a4, a5, a6, a7, a8⟩ := vBox_bd ha
  obtain ⟨hx1, hx2⟩ := hx
  obtain ⟨hy1, hy2⟩ := hy
  clear ha
  go_enter Try.func95, Try.ntmps95
  go_wp2
  all_goals (go_ret; refine ⟨ret_bool ?_, ?_⟩)
  any_goals (rw [Bool.eq_iff_iff]; simp only [inside, decide_eq_true_eq, true_iff, iff_true, Bool.false_eq_true, false_iff, iff_false, Bool.and_eq_true, Bool.or_eq_true]; omega)
  all_goals (repeat' (first | exact Below.refl _ _ | refine Below.alloc ?_ ?_ _ | refine Below.setCell ?_ ?_ _ | refine Below.drew ?_ | refine below_drewN ?_ _ | refine Below.trans ?_ (Below.mono (by assumption) ?_))) <;> (try first | omega | (simp; done) | (simp at *; omega))
theorem impl_pieceBox_c (l x y : Int) (v : Value) (w : World) : Calls Try.prog 77 #[(.agg #[.int .i64 l, .int .i64 x, .int .i64 y, v])] w (Rt (.agg #[.int .i64 0, .int .i64 0, .int .i64 x, .int .i64 y]) w) := by
  go_enter Try.func77, Try.ntmps77
  go_wp2
  refine bodyPost_ret (v := (.agg #[.int .i64 0, .int .i64 0, .int .i64 x, .int .i64 y])) (by simp [results, Try.results77, go_sem, *]) rfl ⟨?_, ?_⟩
  · rfl
  · exact (by repeat' (first | with_reducible exact Below.refl _ _ | with_reducible refine Below.alloc ?_ (by first | omega | (simp; done) | (simp; omega)) _ | with_reducible refine Below.drew ?_ | with_reducible refine below_drewN ?_ _ | with_reducible refine Below.setCell ?_ (by first | omega | (simp; done) | (simp; omega)) _ | with_reducible refine Below.grown ?_ (by assumption) (by first | omega | (simp; done) | (simp; omega)) (by intro k hk; cases hk; omega) | with_reducible refine Below.trans ?_ (Below.mono (by assumption) (by first | omega | (simp; done) | (simp; omega)))))
set_option maxHeartbeats 1600000 in
theorem spec_validPiece_s {b off n cap : Nat} {a0 a1 a2 a3 : Nat → Int} {w : World} {l x y : Int} (h : RSl w b off n cap 4 (boxF a0 a1 a2 a3)) (hx : -9223372036854775808 ≤ x ∧ x ≤ 9223372036854775807) (hy : -9223372036854775808 ≤ y ∧ y ≤ 9223372036854775807) :
    Calls Try.prog 75 #[(.agg #[.int .i64 l, .int .i64 x, .int .i64 y, .slice (some ⟨b, off, none⟩) n cap])] w (Rt (.bool (vPiece l x y a0 a1 a2 a3 n)) w) := by
  have hsm := h.small
  have hwb := h.lt
  have CI := fun ax ay aw ah W ha => spec_insideOf_0 ax ay aw ah x y W ha hx hy
  clear hx hy
  go_enter Try.func75, Try.ntmps75
  go_wp2_with fail
  obtain ⟨wq, hwq⟩ : ∃ wq : World, wq = w.alloc (.cells #[(.int .i64 l), (.int .i64 x), (.int .i64 y), .slice (some ⟨b, off, none⟩) n cap] 65) := ⟨_, rfl⟩
  obtain ⟨g, hg0⟩ : ∃ g, g = w.heap.size := ⟨_, rfl⟩
  have q0 : wq.cell? ⟨w.heap.size, 0, none⟩ = some (.int .i64 l) := by rw [hwq, World.cell?_alloc_at _ _ _ _ rfl]; rfl
  have q1 : wq.cell? ⟨w.heap.size, 1, none⟩ = some (.int .i64 x) := by rw [hwq, World.cell?_alloc_at _ _ _ _ rfl]; rfl
  have q2 : wq.cell? ⟨w.heap.size, 2, none⟩ = some (.int .i64 y) := by rw [hwq, World.cell?_alloc_at _ _ _ _ rfl]; rfl
  have q3 : wq.cell? ⟨w.heap.size, 3, none⟩ = some (.slice (some ⟨b, off, none⟩) n cap) := by rw [hwq, World.cell?_alloc_at _ _ _ _ rfl]; rfl
  have hqs : wq.heap.size = w.heap.size + 1 := by rw [hwq]; simp
  have hbq : Below w.heap.size w wq := by rw [hwq]; exact (Below.refl _ _).alloc (Nat.le_refl _) _
  rw [← hwq, ← hg0]
  rw [← hg0] at q0 q1 q2 q3
  have hgl : g < wq.heap.size := by omega
  have hql : w.heap.size ≤ wq.heap.size := by omega
  clear hwq hg0
  go_loopw [3] (fun i wr => ∃ k : Nat, k ≤ n ∧ i = .int .i64 k ∧ Hid (AllTo (flS a0 a1 a2 a3 x y) k) ∧ Below wq.heap.size wq wr) (fun i _ => n - (intOf i).toNat)
  case atStart => exact ⟨0, Nat.zero_le _, rfl, AllTo.zero _, Below.refl _ _⟩
  case round =>
    obtain ⟨k, hk, rfl, HB, hbr⟩ := hrel
    have hsz := hbr.size
    have hbw : Below w.heap.size w wr := hbq.trans (hbr.mono hql)
    have r0 := (hbr.cell (p := ⟨g, 0, none⟩) hgl).trans q0
    have r1 := (hbr.cell (p := ⟨g, 1, none⟩) hgl).trans q1
    have r2 := (hbr.cell (p := ⟨g, 2, none⟩) hgl).trans q2
    have r3 := (hbr.cell (p := ⟨g, 3, none⟩) hgl).trans q3
    clear q0 q1 q2 q3
    by_cases hlt : k < n
    · have i1 : (0 : Int) ≤ (k : Int) := by omega
      have i2 : (k : Int) < (n : Int) := by omega
      have hlb : b < wr.heap.size := by omega
      have hgb : g < wr.heap.size := by omega
      obtain ⟨c0, c1, c2, c3⟩ := box_cells (h.below hbw) hlt
      have CB := fun W => spec_validBox_c (a0 k) (a1 k) (a2 k) (a3 k) W
      cases hv : vBox (a0 k) (a1 k) (a2 k) (a3 k)
      · have hg : Hid (vPiece l x y a0 a1 a2 a3 n = false) := vPiece_no2 (allB_bad hlt (flS_no1 hv))
        rw [hv] at CB
        clear hv hbr
        have F0 := fun z : Bw wr => z.cell r1
        have F1 := fun z : Bw wr => z.cell r2
        have F2 := fun z : Bw wr => z.cell r3
        have F3 := fun z : Bw wr => z.cell c0
        have F4 := fun z : Bw wr => z.cell c1
        have F5 := fun z : Bw wr => z.cell c2
        have F6 := fun z : Bw wr => z.cell c3
        go_wp2_with fail
        refine region_bw (W := wr) (by kernel_rfl) (by kernel_rfl) (Below.refl _ _) ?_
        repeat (go_big_quiet_step ((go_at_call 93; exact calls_bw (CB _))))
        refine wpQuiet_nil ?_
        rintro _ ⟨⟨wz, hbwz⟩, rfl⟩
        (try dsimp only)
        go_wp2
        go_ret
        exact ⟨ret_bool hg.out.symm, (by repeat' (first | with_reducible exact Below.refl _ _ | with_reducible refine Below.alloc ?_ (by first | omega | (simp; done) | (simp; omega)) _ | with_reducible refine Below.drew ?_ | with_reducible refine below_drewN ?_ _ | with_reducible refine Below.setCell ?_ (by first | omega | (simp; done) | (simp; omega)) _ | with_reducible refine Below.grown ?_ (by assumption) (by first | omega | (simp; done) | (simp; omega)) (by intro k hk; cases hk; omega) | with_reducible refine Below.trans ?_ (Below.mono (by assumption) (by first | omega | (simp; done) | (simp; omega)))))⟩
      · have CI2 := fun W => CI (a0 k) (a1 k) (a2 k) (a3 k) W hv
        clear CI
        rw [hv] at CB
        cases hin : inside (a0 k) (a1 k) (a2 k) (a3 k) 0 0 x y
        · have hg : Hid (vPiece l x y a0 a1 a2 a3 n = false) := vPiece_no2 (allB_bad hlt (flS_no2 hin))
          rw [hin] at CI2
          clear hv hin hbr
          have F0 := fun z : Bw wr => z.cell r1
          have F1 := fun z : Bw wr => z.cell r2
          have F2 := fun z : Bw wr => z.cell r3
          have F3 := fun z : Bw wr => z.cell c0
          have F4 := fun z : Bw wr => z.cell c1
          have F5 := fun z : Bw wr => z.cell c2
          have F6 := fun z : Bw wr => z.cell c3
          go_wp2_with fail
          refine region_bw (W := wr) (by kernel_rfl) (by kernel_rfl) (Below.refl _ _) ?_
          repeat (go_big_quiet_step ((first | (go_at_call 93; exact calls_bw (CB _)) | (go_at_call 95; exact calls_bw (CI2 _)))))
          refine wpQuiet_nil ?_
          rintro _ ⟨⟨wz, hbwz⟩, rfl⟩
          (try dsimp only)
          go_wp2
          go_ret
          exact ⟨ret_bool hg.out.symm, (by repeat' (first | with_reducible exact Below.refl _ _ | with_reducible refine Below.alloc ?_ (by first | omega | (simp; done) | (simp; omega)) _ | with_reducible refine Below.drew ?_ | with_reducible refine below_drewN ?_ _ | with_reducible refine Below.setCell ?_ (by first | omega | (simp; done) | (simp; omega)) _ | with_reducible refine Below.grown ?_ (by assumption) (by first | omega | (simp; done) | (simp; omega)) (by intro k hk; cases hk; omega) | with_reducible refine Below.trans ?_ (Below.mono (by assumption) (by first | omega | (simp; done) | (simp; omega)))))⟩
        · have hok := mkhid (HB.out.succ (flS_yes hv hin))
          rw [hin] at CI2
          clear hv hin hbw
          have F0 := fun z : Bw wr => z.cell r1
          have F1 := fun z : Bw wr => z.cell r2
          have F2 := fun z : Bw wr => z.cell r3
          have F3 := fun z : Bw wr => z.cell c0
          have F4 := fun z : Bw wr => z.cell c1
          have F5 := fun z : Bw wr => z.cell c2
          have F6 := fun z : Bw wr => z.cell c3
          go_wp2_with fail
          refine region_bw (W := wr) (by kernel_rfl) (by kernel_rfl) (Below.refl _ _) ?_
          repeat (go_big_quiet_step ((first | (go_at_call 93; exact calls_bw (CB _)) | (go_at_call 95; exact calls_bw (CI2 _)))))
          refine wpQuiet_nil ?_
          rintro _ ⟨⟨wz, hbwz⟩, rfl⟩
          (try dsimp only)
          go_wp2_with fail
          go_roundw
          case rel => exact ⟨k + 1, by omega, by go_num, hok, (by repeat' (first | with_reducible exact Below.refl _ _ | with_reducible refine Below.alloc ?_ (by first | omega | (simp; done) | (simp; omega)) _ | with_reducible refine Below.drew ?_ | with_reducible refine below_drewN ?_ _ | with_reducible refine Below.setCell ?_ (by first | omega | (simp; done) | (simp; omega)) _ | with_reducible refine Below.grown ?_ (by assumption) (by first | omega | (simp; done) | (simp; omega)) (by intro k hk; cases hk; omega) | with_reducible refine Below.trans ?_ (Below.mono (by assumption) (by first | omega | (simp; done) | (simp; omega)))))⟩
          case measure => simp [intOf]; omega
    · have hkn := mkhid (show k = n by omega)
      have HN := mkhid (show AllTo (flS a0 a1 a2 a3 x y) n from hkn.out ▸ HB.out)
      clear hbr CI
      by_cases h1 : 1 ≤ l ∧ l ≤ 9999
      · have e1 := inR_yes h1
        by_cases h2 : 1 ≤ x ∧ x ≤ 200
        · have e2 := inR_yes h2
          by_cases h3 : 1 ≤ y ∧ y ≤ 200
          · have e3 := inR_yes h3
            have hE := mkhid (vPiece_eq (a0 := a0) (a1 := a1) (a2 := a2) (a3 := a3) (n := n) ⟨h1, h2, h3⟩)
            by_cases q : n ≤ 6
            · have d1 : decide ((n : Int) ≤ 6) = true := decide_eq_true (by omega)
              have hg : Hid (vPiece l x y a0 a1 a2 a3 n = true) := hE.out.trans (allB_iff.2 ⟨q, HN.out⟩)
              clear h1 h2 h3
              go_wp2_with (go_at_call 86; refine (inRange_c _ _ _ _).mono ?_; rintro e w1 ⟨rfl, rfl⟩)
              go_ret
              exact ⟨ret_bool hg.out.symm, hbw⟩
            · have d1 : decide ((n : Int) ≤ 6) = false := decide_eq_false (by omega)
              have hg : Hid (vPiece l x y a0 a1 a2 a3 n = false) := vPiece_no2 (allB_many q)
              clear h1 h2 h3
              go_wp2_with (go_at_call 86; refine (inRange_c _ _ _ _).mono ?_; rintro e w1 ⟨rfl, rfl⟩)
              go_ret
              exact ⟨ret_bool hg.out.symm, hbw⟩
          · have e3 := inR_no h3
            have hg : Hid (vPiece l x y a0 a1 a2 a3 n = false) := vPiece_no (fun hh => h3 hh.2.2)
            clear h1 h2 h3
            go_wp2_with (go_at_call 86; refine (inRange_c _ _ _ _).mono ?_; rintro e w1 ⟨rfl, rfl⟩)
            go_ret
            exact ⟨ret_bool hg.out.symm, hbw⟩
        · have e2 := inR_no h2
          have hg : Hid (vPiece l x y a0 a1 a2 a3 n = false) := vPiece_no (fun hh => h2 hh.2.1)
          clear h1 h2
          go_wp2_with (go_at_call 86; refine (inRange_c _ _ _ _).mono ?_; rintro e w1 ⟨rfl, rfl⟩)
          go_ret
          exact ⟨ret_bool hg.out.symm, hbw⟩
      · have e1 := inR_no h1
        have hg : Hid (vPiece l x y a0 a1 a2 a3 n = false) := vPiece_no (fun hh => h1 hh.1)
        clear h1
        go_wp2_with (go_at_call 86; refine (inRange_c _ _ _ _).mono ?_; rintro e w1 ⟨rfl, rfl⟩)
        go_ret
        exact ⟨ret_bool hg.out.symm, hbw⟩
theorem spec_ValidPiece_s {b off n cap : Nat} {a0 a1 a2 a3 : Nat → Int} {w : World} {l x y : Int} (h : RSl w b off n cap 4 (boxF a0 a1 a2 a3)) (hx : -9223372036854775808 ≤ x ∧ x ≤ 9223372036854775807) (hy : -9223372036854775808 ≤ y ∧ y ≤ 9223372036854775807) :
    Calls Try.prog 41 #[(.agg #[.int .i64 l, .int .i64 x, .int .i64 y, .slice (some ⟨b, off, none⟩) n cap])] w (Rt (.bool (vPiece l x y a0 a1 a2 a3 n)) w) := by
  have CP := fun W hW => spec_validPiece_s (w := W) (l := l) hW hx hy (b := b) (off := off) (n := n) (cap := cap) (a0 := a0) (a1 := a1) (a2 := a2) (a3 := a3)
  clear hx hy
  go_enter Try.func41, Try.ntmps41
  go_wp2_with (go_at_call 75; refine (CP _ (h.below (by repeat' (first | with_reducible exact Below.refl _ _ | with_reducible refine Below.alloc ?_ (by first | omega | (simp; done) | (simp; omega)) _ | with_reducible refine Below.drew ?_ | with_reducible refine below_drewN ?_ _ | with_reducible refine Below.setCell ?_ (by first | omega | (simp; done) | (simp; omega)) _ | with_reducible refine Below.grown ?_ (by assumption) (by first | omega | (simp; done) | (simp; omega)) (by intro k hk; cases hk; omega) | with_reducible refine Below.trans ?_ (Below.mono (by assumption) (by first | omega | (simp; done) | (simp; omega))))))).mono ?_; rintro e w1 ⟨rfl, hb1⟩; obtain ⟨hc1, hf1, -, hz1⟩ := bcell hb1; (try simp at hz1); (try (have zw0 : w.heap.size < w1.heap.size := by omega)); (try (have zw1 : w.heap.size + 1 < w1.heap.size := by omega)); (try (have zw2 : w.heap.size + 1 + 1 < w1.heap.size := by omega)); (try (have zw3 : w.heap.size + 1 + 1 + 1 < w1.heap.size := by omega)); (try (have zw4 : w.heap.size + 1 + 1 + 1 + 1 < w1.heap.size := by omega)); (try (have zw5 : w.heap.size + 1 + 1 + 1 + 1 + 1 < w1.heap.size := by omega)))
  go_ret
  exact ⟨rfl, (by repeat' (first | with_reducible exact Below.refl _ _ | with_reducible refine Below.alloc ?_ (by first | omega | (simp; done) | (simp; omega)) _ | with_reducible refine Below.drew ?_ | with_reducible refine below_drewN ?_ _ | with_reducible refine Below.setCell ?_ (by first | omega | (simp; done) | (simp; omega)) _ | with_reducible refine Below.grown ?_ (by assumption) (by first | omega | (simp; done) | (simp; omega)) (by intro k hk; cases hk; omega) | with_reducible refine Below.trans ?_ (Below.mono (by assumption) (by first | omega | (simp; done) | (simp; omega)))))⟩
end Go.Proofs.Ytjanjaabcinkiaa
