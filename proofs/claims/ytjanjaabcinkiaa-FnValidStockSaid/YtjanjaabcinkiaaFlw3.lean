/- DrawValidPiece of spec; ValidPiece (spec and impl) of pieces with or without flaws; ClearAt; no statement is proved here. -/
import Derived.Test.YtjanjaabcinkiaaFlw2
import Derived.Test.YtjanjaabcinkiaaPce2
namespace Go.Proofs.Ytjanjaabcinkiaa
open Go.ChangeShapes Go.WideShapes Go.ChangeAt Go.RowKit Go.Deep
set_option linter.unusedVariables false
set_option linter.unusedSimpArgs false

/-- a piece is drawn -/
def DrC (w : World) : Ending → World → Prop := fun e w' => ∃ l x y v bs, e = .returned (.agg #[.int .i64 l, .int .i64 x, .int .i64 y, v]) ∧ OFl w' w.heap.size v bs ∧ bs.length ≤ 4 ∧ (0 ≤ x ∧ x ≤ 201 ∧ 6 ≤ y ∧ y ≤ 24) ∧ Below w.heap.size w w'
set_option maxHeartbeats 1000000 in
theorem DrawValidPiece_c {w : World} {v : Value} (hv : BSl w v) : Calls Try.prog 49 #[v] w (DrC w) := by
  obtain ⟨B, hB0, hv⟩ : ∃ B, B ≤ w.heap.size ∧ BSlB w B v := ⟨w.heap.size, Nat.le_refl _, hv⟩
  have hv' := hv
  obtain ⟨p, n, cap, rfl, _⟩ := hv'
  go_enter Try.func49, Try.ntmps49
  go_wp2_with fail
  go_at_call 80
  refine (newReader_c _ _ B (hv.below (by (repeat' (first | exact Below.refl _ _ | refine Below.alloc ?_ ?_ _ | refine Below.setCell ?_ ?_ _ | refine Below.drew ?_ | refine below_drewN ?_ _ | refine Below.trans ?_ (Below.mono (by assumption) ?_))) <;> (try first | omega | (simp; done) | (simp at *; omega))) hB0) (by first | omega | (simp; omega))).mono ?_
  rintro e w1 ⟨g, rfl, hr1, hL, hb1⟩
  have hH := hr1.lt
  have hB := hr1.ge
  obtain ⟨hc1, hf1, -, hz1⟩ := bcell hb1
  (try simp at hz1)
  (try simp at hL)
  have y1 : w.heap.size ≤ w1.heap.size := by omega
  (try (have z1_0 : w.heap.size < w1.heap.size := by omega))
  (try (have z1_1 : w.heap.size + 1 < w1.heap.size := by omega))
  go_wp2_with fail
  have b1 : PcAt w1 w.heap.size 0 0 0 (.slice none 0 0) := ⟨by omega, by go_simp, by go_simp, by go_simp, by go_simp, fun o => by go_simp⟩
  go_at_call 82
  refine (anyPiece_c (show Rdr _ B g _ by repeat' (first | with_reducible exact hr1 | with_reducible apply Rdr.alloc | with_reducible apply Rdr.drew1 | with_reducible apply Rdr.drew | (apply Rdr.setO (ha := by first | omega | (simp; omega)) (hB := by first | omega | (simp; omega))))) (by omega)).mono ?_
  rintro e w2 ⟨l, x, y, u, bs, rfl, ho, hk, ⟨q1, q2, q3, q4, q5, q6⟩, hr2, hg2⟩
  obtain ⟨hc2, hf2, hz2⟩ := gcell hg2 hH
  (try simp at hz2)
  obtain ⟨hd2, he2⟩ := gcellL hg2 hL
  (try (have ne2_0_0 : ¬ (w2.heap.size = w.heap.size) := by omega)); (try (have nf2_0_0 : ¬ (w.heap.size = w2.heap.size) := by omega))
  (try (have ne2_0_1 : ¬ (w2.heap.size = w.heap.size + 1) := by omega)); (try (have nf2_0_1 : ¬ (w.heap.size + 1 = w2.heap.size) := by omega))
  (try (have ne2_1_0 : ¬ (w2.heap.size = w1.heap.size) := by omega)); (try (have nf2_1_0 : ¬ (w1.heap.size = w2.heap.size) := by omega))
  (try (have ne2_1_1 : ¬ (w2.heap.size = w1.heap.size + 1) := by omega)); (try (have nf2_1_1 : ¬ (w1.heap.size + 1 = w2.heap.size) := by omega))
  (try (have y2 : w.heap.size ≤ w2.heap.size := by omega))
  (try (have y2_1 : w1.heap.size ≤ w2.heap.size := by omega))
  (try (have z2_0_0 : w.heap.size < w2.heap.size := by omega))
  (try (have z2_0_1 : w.heap.size + 1 < w2.heap.size := by omega))
  (try (have z2_0_2 : w.heap.size + 1 + 1 < w2.heap.size := by omega))
  (try (have z2_1_0 : w1.heap.size < w2.heap.size := by omega))
  (try (have z2_1_1 : w1.heap.size + 1 < w2.heap.size := by omega))
  have b2 := b1.g hg2 (by omega)
  obtain ⟨pv, cv, hu⟩ := ho.form
  subst hu
  have f0 := b2.fr 0
  have f1 := b2.fr 1
  have f2 := b2.fr 2
  have f3 := b2.fr 3
  have l0 := b2.c0
  have l1 := b2.c1
  have l2 := b2.c2
  have l3 := b2.c3
  have hb2 : Below w.heap.size w w2 := Below.grown (by have := hb1; exact (by repeat' (first | with_reducible exact Below.refl _ _ | with_reducible refine Below.alloc ?_ (by first | omega | (simp; done) | (simp; omega)) _ | with_reducible refine Below.drew ?_ | with_reducible refine below_drewN ?_ _ | with_reducible refine Below.setCell ?_ (by first | omega | (simp; done) | (simp; omega)) _ | with_reducible refine Below.grown ?_ (by assumption) (by first | omega | (simp; done) | (simp; omega)) (by intro k hk; cases hk; omega) | with_reducible refine Below.trans ?_ (Below.mono (by assumption) (by first | omega | (simp; done) | (simp; omega)))))) hg2 (by omega) (fun k hk => by cases hk; omega)
  clear hc2 hf2 hc1 hf1 hd2 he2
  go_wp2_with fail
  refine bodyPost_ret (v := (.agg #[.int .i64 l, .int .i64 x, .int .i64 y, .slice pv bs.length cv])) (by simp [results, Try.results49, go_sem, *]) rfl ⟨l, x, y, _, bs, rfl, ((((ho.setL (by omega)).setL (by omega)).setL (by omega)).setL (by omega)).le (by omega), hk, ⟨by omega, by omega, by omega, by omega⟩, (((hb2.setCell (p := ⟨_, _, none⟩) (Nat.le_refl _) _).setCell (p := ⟨_, _, none⟩) (Nat.le_refl _) _).setCell (p := ⟨_, _, none⟩) (Nat.le_refl _) _).setCell (p := ⟨_, _, none⟩) (Nat.le_refl _) _⟩
def fl (bs : List Fl) (i : Nat) : Fl := bs.getD i ⟨0, 0, 0, 0⟩
def f0 (bs : List Fl) (i : Nat) : Int := (fl bs i).x
def f1 (bs : List Fl) (i : Nat) : Int := (fl bs i).y
def f2 (bs : List Fl) (i : Nat) : Int := (fl bs i).w
def f3 (bs : List Fl) (i : Nat) : Int := (fl bs i).h
@[irreducible] def vP (l x y : Int) (bs : List Fl) : Bool := vPiece l x y (f0 bs) (f1 bs) (f2 bs) (f3 bs) bs.length
theorem vP_eq (l x y : Int) (bs : List Fl) : vP l x y bs = vPiece l x y (f0 bs) (f1 bs) (f2 bs) (f3 bs) bs.length := by unfold vP; rfl
theorem vP_nil (l x y : Int) : vP l x y [] = pceOk l x y := by
  rw [vP_eq]
  unfold vPiece
  rw [show allB (flS (f0 []) (f1 []) (f2 []) (f3 []) x y) 6 ([] : List Fl).length = true from allB_iff.2 ⟨by simp, fun i hi => by simp at hi⟩, Bool.and_true]
theorem of_rsl {w : World} {B g n c : Nat} {bs : List Fl} (h : OF w B g n c bs) (hl : n ≤ 1048576) : RSl w g 0 n c 4 (boxF (f0 bs) (f1 bs) (f2 bs) (f3 bs)) := by
  refine h.rsl hl _ fun i j hi hj => ?_
  have e : fl bs i = bs[i] := by simp [fl, hi]
  match j, hj with
  | 0, _ => simp [flK, boxF, f0, e]
  | 1, _ => simp [flK, boxF, f1, e]
  | 2, _ => simp [flK, boxF, f2, e]
  | 3, _ => simp [flK, boxF, f3, e]
set_option maxHeartbeats 1000000 in
theorem impl_ValidPiece_nil (l x y : Int) (w : World) : Calls Try.prog 43 #[(.agg #[.int .i64 l, .int .i64 x, .int .i64 y, .slice none 0 0])] w (Rt (.bool (pceOk l x y)) w) := by
  have CV := fun W => impl_ValidBox_c 0 0 x y W
  have hE : Hid (pceOk l x y = decide ((1 ≤ l ∧ l ≤ 9999) ∧ (1 ≤ x ∧ x ≤ 200) ∧ (1 ≤ y ∧ y ≤ 200))) := rfl
  by_cases h1 : 1 ≤ l ∧ l ≤ 9999
  · by_cases h2 : 1 ≤ x ∧ x ≤ 200 ∧ 1 ≤ y ∧ y ≤ 200
    · rw [vBox_sides, decide_eq_true h2] at CV
      have hg : Hid (pceOk l x y = true) := by show _ = _; rw [hE.out]; exact decide_eq_true ⟨h1, ⟨h2.1, h2.2.1⟩, h2.2.2⟩
      obtain ⟨l1, l2⟩ := h1
      clear h2 hE
      go_enter Try.func43, Try.ntmps43
      go_wp2_with fail
      go_at_call 77
      refine (impl_pieceBox_c _ _ _ _ _).mono ?_
      rintro e w1 ⟨rfl, hb1⟩
      obtain ⟨hc1, hf1, -, hz1⟩ := bcell hb1
      (try simp at hz1)
      (try (have y1 : w.heap.size ≤ w1.heap.size := by omega))
      (try (have z1_0_0 : w.heap.size < w1.heap.size := by omega))
      (try (have z1_0_1 : w.heap.size + 1 < w1.heap.size := by omega))
      (try (have z1_0_2 : w.heap.size + 1 + 1 < w1.heap.size := by omega))
      (try (have z1_0_3 : w.heap.size + 1 + 1 + 1 < w1.heap.size := by omega))
      go_wp2_with fail
      go_at_call 76
      refine (CV _).mono ?_
      rintro e w2 ⟨rfl, hb2⟩
      obtain ⟨hc2, hf2, -, hz2⟩ := bcell hb2
      (try simp at hz2)
      (try (have y2 : w.heap.size ≤ w2.heap.size := by omega))
      (try (have z2_0_0 : w.heap.size < w2.heap.size := by omega))
      (try (have z2_0_1 : w.heap.size + 1 < w2.heap.size := by omega))
      (try (have z2_0_2 : w.heap.size + 1 + 1 < w2.heap.size := by omega))
      (try (have z2_0_3 : w.heap.size + 1 + 1 + 1 < w2.heap.size := by omega))
      (try (have z2_1_0 : w1.heap.size < w2.heap.size := by omega))
      (try (have z2_1_1 : w1.heap.size + 1 < w2.heap.size := by omega))
      go_wp2_with fail
      have hB2 : Below w.heap.size w w2 := (by repeat' (first | with_reducible exact Below.refl _ _ | with_reducible refine Below.alloc ?_ (by first | omega | (simp; done) | (simp; omega)) _ | with_reducible refine Below.drew ?_ | with_reducible refine below_drewN ?_ _ | with_reducible refine Below.setCell ?_ (by first | omega | (simp; done) | (simp; omega)) _ | with_reducible refine Below.grown ?_ (by assumption) (by first | omega | (simp; done) | (simp; omega)) (by intro k hk; cases hk; omega) | with_reducible refine Below.trans ?_ (Below.mono (by assumption) (by first | omega | (simp; done) | (simp; omega)))))
      go_loopw [28] (fun i wr => i = .int .i64 0 ∧ Below w2.heap.size w2 wr) (fun _ _ => (0 : Nat))
      case atStart => exact ⟨rfl, Below.refl _ _⟩
      case round =>
        obtain ⟨rfl, hbr⟩ := hrel
        go_wp2
        go_ret
        exact ⟨ret_bool hg.out.symm, hB2.trans (hbr.mono hB2.size)⟩
    · have hg : Hid (pceOk l x y = false) := by show _ = _; rw [hE.out]; exact decide_eq_false (fun hh => h2 ⟨hh.2.1.1, hh.2.1.2, hh.2.2⟩)
      rw [vBox_sides, decide_eq_false h2] at CV
      obtain ⟨l1, l2⟩ := h1
      clear h2 hE
      go_enter Try.func43, Try.ntmps43
      go_wp2_with fail
      go_at_call 77
      refine (impl_pieceBox_c _ _ _ _ _).mono ?_
      rintro e w1 ⟨rfl, hb1⟩
      obtain ⟨hc1, hf1, -, hz1⟩ := bcell hb1
      (try simp at hz1)
      (try (have y1 : w.heap.size ≤ w1.heap.size := by omega))
      (try (have z1_0_0 : w.heap.size < w1.heap.size := by omega))
      (try (have z1_0_1 : w.heap.size + 1 < w1.heap.size := by omega))
      (try (have z1_0_2 : w.heap.size + 1 + 1 < w1.heap.size := by omega))
      (try (have z1_0_3 : w.heap.size + 1 + 1 + 1 < w1.heap.size := by omega))
      go_wp2_with fail
      go_at_call 76
      refine (CV _).mono ?_
      rintro e w2 ⟨rfl, hb2⟩
      obtain ⟨hc2, hf2, -, hz2⟩ := bcell hb2
      (try simp at hz2)
      (try (have y2 : w.heap.size ≤ w2.heap.size := by omega))
      (try (have z2_0_0 : w.heap.size < w2.heap.size := by omega))
      (try (have z2_0_1 : w.heap.size + 1 < w2.heap.size := by omega))
      (try (have z2_0_2 : w.heap.size + 1 + 1 < w2.heap.size := by omega))
      (try (have z2_0_3 : w.heap.size + 1 + 1 + 1 < w2.heap.size := by omega))
      (try (have z2_1_0 : w1.heap.size < w2.heap.size := by omega))
      (try (have z2_1_1 : w1.heap.size + 1 < w2.heap.size := by omega))
      go_wp2_with fail
      go_ret
      exact ⟨ret_bool hg.out.symm, (by repeat' (first | with_reducible exact Below.refl _ _ | with_reducible refine Below.alloc ?_ (by first | omega | (simp; done) | (simp; omega)) _ | with_reducible refine Below.drew ?_ | with_reducible refine below_drewN ?_ _ | with_reducible refine Below.setCell ?_ (by first | omega | (simp; done) | (simp; omega)) _ | with_reducible refine Below.grown ?_ (by assumption) (by first | omega | (simp; done) | (simp; omega)) (by intro k hk; cases hk; omega) | with_reducible refine Below.trans ?_ (Below.mono (by assumption) (by first | omega | (simp; done) | (simp; omega)))))⟩
  · have hg : Hid (pceOk l x y = false) := by show _ = _; rw [hE.out]; exact decide_eq_false (fun hh => h1 hh.1)
    have h3 : l < 1 ∨ 9999 < l := by omega
    clear h1 hE
    rcases h3 with h3 | h3
    · have d1 : decide (l < 1) = true := decide_eq_true h3
      go_enter Try.func43, Try.ntmps43
      go_wp2_with (first | (go_at_call 77; refine (impl_pieceBox_c _ _ _ _ _).mono ?_; rintro e w1 ⟨rfl, hb1⟩; obtain ⟨hc1, hf1, -, hz1⟩ := bcell hb1; (try simp at hz1); (try (have zw0 : w.heap.size < w1.heap.size := by omega)); (try (have zw1 : w.heap.size + 1 < w1.heap.size := by omega)); (try (have zw2 : w.heap.size + 1 + 1 < w1.heap.size := by omega)); (try (have zw3 : w.heap.size + 1 + 1 + 1 < w1.heap.size := by omega)); (try (have zw4 : w.heap.size + 1 + 1 + 1 + 1 < w1.heap.size := by omega)); (try (have zw5 : w.heap.size + 1 + 1 + 1 + 1 + 1 < w1.heap.size := by omega))) | (go_at_call 76; refine (CV _).mono ?_; rintro e w1 ⟨rfl, hb1⟩; obtain ⟨hc1, hf1, -, hz1⟩ := bcell hb1; (try simp at hz1); (try (have zw0 : w.heap.size < w1.heap.size := by omega)); (try (have zw1 : w.heap.size + 1 < w1.heap.size := by omega)); (try (have zw2 : w.heap.size + 1 + 1 < w1.heap.size := by omega)); (try (have zw3 : w.heap.size + 1 + 1 + 1 < w1.heap.size := by omega)); (try (have zw4 : w.heap.size + 1 + 1 + 1 + 1 < w1.heap.size := by omega)); (try (have zw5 : w.heap.size + 1 + 1 + 1 + 1 + 1 < w1.heap.size := by omega))))
      all_goals go_ret
      all_goals exact ⟨ret_bool hg.out.symm, (by repeat' (first | with_reducible exact Below.refl _ _ | with_reducible refine Below.alloc ?_ (by first | omega | (simp; done) | (simp; omega)) _ | with_reducible refine Below.drew ?_ | with_reducible refine below_drewN ?_ _ | with_reducible refine Below.setCell ?_ (by first | omega | (simp; done) | (simp; omega)) _ | with_reducible refine Below.grown ?_ (by assumption) (by first | omega | (simp; done) | (simp; omega)) (by intro k hk; cases hk; omega) | with_reducible refine Below.trans ?_ (Below.mono (by assumption) (by first | omega | (simp; done) | (simp; omega)))))⟩
    · have d1 : decide (9999 < l) = true := decide_eq_true h3
      go_enter Try.func43, Try.ntmps43
      go_wp2_with (first | (go_at_call 77; refine (impl_pieceBox_c _ _ _ _ _).mono ?_; rintro e w1 ⟨rfl, hb1⟩; obtain ⟨hc1, hf1, -, hz1⟩ := bcell hb1; (try simp at hz1); (try (have zw0 : w.heap.size < w1.heap.size := by omega)); (try (have zw1 : w.heap.size + 1 < w1.heap.size := by omega)); (try (have zw2 : w.heap.size + 1 + 1 < w1.heap.size := by omega)); (try (have zw3 : w.heap.size + 1 + 1 + 1 < w1.heap.size := by omega)); (try (have zw4 : w.heap.size + 1 + 1 + 1 + 1 < w1.heap.size := by omega)); (try (have zw5 : w.heap.size + 1 + 1 + 1 + 1 + 1 < w1.heap.size := by omega))) | (go_at_call 76; refine (CV _).mono ?_; rintro e w1 ⟨rfl, hb1⟩; obtain ⟨hc1, hf1, -, hz1⟩ := bcell hb1; (try simp at hz1); (try (have zw0 : w.heap.size < w1.heap.size := by omega)); (try (have zw1 : w.heap.size + 1 < w1.heap.size := by omega)); (try (have zw2 : w.heap.size + 1 + 1 < w1.heap.size := by omega)); (try (have zw3 : w.heap.size + 1 + 1 + 1 < w1.heap.size := by omega)); (try (have zw4 : w.heap.size + 1 + 1 + 1 + 1 < w1.heap.size := by omega)); (try (have zw5 : w.heap.size + 1 + 1 + 1 + 1 + 1 < w1.heap.size := by omega))))
      all_goals go_ret
      all_goals exact ⟨ret_bool hg.out.symm, (by repeat' (first | with_reducible exact Below.refl _ _ | with_reducible refine Below.alloc ?_ (by first | omega | (simp; done) | (simp; omega)) _ | with_reducible refine Below.drew ?_ | with_reducible refine below_drewN ?_ _ | with_reducible refine Below.setCell ?_ (by first | omega | (simp; done) | (simp; omega)) _ | with_reducible refine Below.grown ?_ (by assumption) (by first | omega | (simp; done) | (simp; omega)) (by intro k hk; cases hk; omega) | with_reducible refine Below.trans ?_ (Below.mono (by assumption) (by first | omega | (simp; done) | (simp; omega)))))⟩
set_option maxHeartbeats 1000000 in
theorem spec_validPiece_nil (l x y : Int) (w : World) : Calls Try.prog 75 #[(.agg #[.int .i64 l, .int .i64 x, .int .i64 y, .slice none 0 0])] w (Rt (.bool (pceOk l x y)) w) := by
  have hE : Hid (pceOk l x y = decide ((1 ≤ l ∧ l ≤ 9999) ∧ (1 ≤ x ∧ x ≤ 200) ∧ (1 ≤ y ∧ y ≤ 200))) := rfl
  go_enter Try.func75, Try.ntmps75
  go_wp2_with fail
  go_loopw [3] (fun i wr => i = .int .i64 0 ∧ wr = w.alloc (.cells #[(.int .i64 l), (.int .i64 x), (.int .i64 y), .slice none 0 0] 65)) (fun _ _ => (0 : Nat))
  case atStart => exact ⟨rfl, rfl⟩
  case round =>
    obtain ⟨rfl, rfl⟩ := hrel
    by_cases h1 : 1 ≤ l ∧ l ≤ 9999
    · have e1 := inR_yes h1
      by_cases h2 : 1 ≤ x ∧ x ≤ 200
      · have e2 := inR_yes h2
        by_cases h3 : 1 ≤ y ∧ y ≤ 200
        · have e3 := inR_yes h3
          have hg : Hid (pceOk l x y = true) := by show _ = _; rw [hE.out]; exact decide_eq_true ⟨h1, h2, h3⟩
          clear h1 h2 h3 hE
          go_wp2_with (go_at_call 86; refine (inRange_c _ _ _ _).mono ?_; rintro e w1 ⟨rfl, rfl⟩)
          go_ret
          exact ⟨ret_bool hg.out.symm, (by repeat' (first | with_reducible exact Below.refl _ _ | with_reducible refine Below.alloc ?_ (by first | omega | (simp; done) | (simp; omega)) _ | with_reducible refine Below.drew ?_ | with_reducible refine below_drewN ?_ _ | with_reducible refine Below.setCell ?_ (by first | omega | (simp; done) | (simp; omega)) _ | with_reducible refine Below.grown ?_ (by assumption) (by first | omega | (simp; done) | (simp; omega)) (by intro k hk; cases hk; omega) | with_reducible refine Below.trans ?_ (Below.mono (by assumption) (by first | omega | (simp; done) | (simp; omega)))))⟩
        · have e3 := inR_no h3
          have hg : Hid (pceOk l x y = false) := by show _ = _; rw [hE.out]; exact decide_eq_false (fun hh => h3 hh.2.2)
          clear h1 h2 h3 hE
          go_wp2_with (go_at_call 86; refine (inRange_c _ _ _ _).mono ?_; rintro e w1 ⟨rfl, rfl⟩)
          go_ret
          exact ⟨ret_bool hg.out.symm, (by repeat' (first | with_reducible exact Below.refl _ _ | with_reducible refine Below.alloc ?_ (by first | omega | (simp; done) | (simp; omega)) _ | with_reducible refine Below.drew ?_ | with_reducible refine below_drewN ?_ _ | with_reducible refine Below.setCell ?_ (by first | omega | (simp; done) | (simp; omega)) _ | with_reducible refine Below.grown ?_ (by assumption) (by first | omega | (simp; done) | (simp; omega)) (by intro k hk; cases hk; omega) | with_reducible refine Below.trans ?_ (Below.mono (by assumption) (by first | omega | (simp; done) | (simp; omega)))))⟩
      · have e2 := inR_no h2
        have hg : Hid (pceOk l x y = false) := by show _ = _; rw [hE.out]; exact decide_eq_false (fun hh => h2 hh.2.1)
        clear h1 h2 hE
        go_wp2_with (go_at_call 86; refine (inRange_c _ _ _ _).mono ?_; rintro e w1 ⟨rfl, rfl⟩)
        go_ret
        exact ⟨ret_bool hg.out.symm, (by repeat' (first | with_reducible exact Below.refl _ _ | with_reducible refine Below.alloc ?_ (by first | omega | (simp; done) | (simp; omega)) _ | with_reducible refine Below.drew ?_ | with_reducible refine below_drewN ?_ _ | with_reducible refine Below.setCell ?_ (by first | omega | (simp; done) | (simp; omega)) _ | with_reducible refine Below.grown ?_ (by assumption) (by first | omega | (simp; done) | (simp; omega)) (by intro k hk; cases hk; omega) | with_reducible refine Below.trans ?_ (Below.mono (by assumption) (by first | omega | (simp; done) | (simp; omega)))))⟩
    · have e1 := inR_no h1
      have hg : Hid (pceOk l x y = false) := by show _ = _; rw [hE.out]; exact decide_eq_false (fun hh => h1 hh.1)
      clear h1 hE
      go_wp2_with (go_at_call 86; refine (inRange_c _ _ _ _).mono ?_; rintro e w1 ⟨rfl, rfl⟩)
      go_ret
      exact ⟨ret_bool hg.out.symm, (by repeat' (first | with_reducible exact Below.refl _ _ | with_reducible refine Below.alloc ?_ (by first | omega | (simp; done) | (simp; omega)) _ | with_reducible refine Below.drew ?_ | with_reducible refine below_drewN ?_ _ | with_reducible refine Below.setCell ?_ (by first | omega | (simp; done) | (simp; omega)) _ | with_reducible refine Below.grown ?_ (by assumption) (by first | omega | (simp; done) | (simp; omega)) (by intro k hk; cases hk; omega) | with_reducible refine Below.trans ?_ (Below.mono (by assumption) (by first | omega | (simp; done) | (simp; omega)))))⟩
theorem impl_ValidPiece_f {w : World} {B : Nat} {v : Value} {bs : List Fl} (l x y : Int) (h : OFl w B v bs) (hl : bs.length ≤ 1000) : Calls Try.prog 43 #[(.agg #[.int .i64 l, .int .i64 x, .int .i64 y, v])] w (Rt (.bool (vP l x y bs)) w) := by
  rcases h with ⟨rfl, rfl⟩ | ⟨g, c, rfl, h⟩
  · rw [vP_nil]; exact impl_ValidPiece_nil l x y w
  · rw [vP_eq]; exact impl_ValidPiece_s (of_rsl h (by omega))
theorem spec_validPiece_f {w : World} {B : Nat} {v : Value} {bs : List Fl} {l x y : Int} (h : OFl w B v bs) (hl : bs.length ≤ 1000) (hx : 0 ≤ x ∧ x ≤ 201) (hy : 0 ≤ y ∧ y ≤ 201) : Calls Try.prog 75 #[(.agg #[.int .i64 l, .int .i64 x, .int .i64 y, v])] w (Rt (.bool (vP l x y bs)) w) := by
  rcases h with ⟨rfl, rfl⟩ | ⟨g, c, rfl, h⟩
  · rw [vP_nil]; exact spec_validPiece_nil l x y w
  · rw [vP_eq]; exact spec_validPiece_s (of_rsl h (by omega)) (by omega) (by omega)
theorem spec_ValidPiece_f {w : World} {B : Nat} {v : Value} {bs : List Fl} {l x y : Int} (h : OFl w B v bs) (hl : bs.length ≤ 1000) (hx : 0 ≤ x ∧ x ≤ 201) (hy : 0 ≤ y ∧ y ≤ 201) : Calls Try.prog 41 #[(.agg #[.int .i64 l, .int .i64 x, .int .i64 y, v])] w (Rt (.bool (vP l x y bs)) w) := by
  have CP := fun W (hb : Below w.heap.size w W) => spec_validPiece_f (l := l) (h.below hb) hl hx hy
  obtain ⟨p, c, hf⟩ := h.form
  subst hf
  clear hx hy h hl
  go_enter Try.func41, Try.ntmps41
  go_wp2_with (go_at_call 75; refine (CP _ (by repeat' (first | with_reducible exact Below.refl _ _ | with_reducible refine Below.alloc ?_ (by first | omega | (simp; done) | (simp; omega)) _ | with_reducible refine Below.drew ?_ | with_reducible refine below_drewN ?_ _ | with_reducible refine Below.setCell ?_ (by first | omega | (simp; done) | (simp; omega)) _ | with_reducible refine Below.grown ?_ (by assumption) (by first | omega | (simp; done) | (simp; omega)) (by intro k hk; cases hk; omega) | with_reducible refine Below.trans ?_ (Below.mono (by assumption) (by first | omega | (simp; done) | (simp; omega)))))).mono ?_; rintro e w1 ⟨rfl, hb1⟩; obtain ⟨hc1, hf1, -, hz1⟩ := bcell hb1; (try simp at hz1); (try (have zw0 : w.heap.size < w1.heap.size := by omega)); (try (have zw1 : w.heap.size + 1 < w1.heap.size := by omega)); (try (have zw2 : w.heap.size + 1 + 1 < w1.heap.size := by omega)); (try (have zw3 : w.heap.size + 1 + 1 + 1 < w1.heap.size := by omega)); (try (have zw4 : w.heap.size + 1 + 1 + 1 + 1 < w1.heap.size := by omega)); (try (have zw5 : w.heap.size + 1 + 1 + 1 + 1 + 1 < w1.heap.size := by omega)))
  go_ret
  exact ⟨rfl, (by repeat' (first | with_reducible exact Below.refl _ _ | with_reducible refine Below.alloc ?_ (by first | omega | (simp; done) | (simp; omega)) _ | with_reducible refine Below.drew ?_ | with_reducible refine below_drewN ?_ _ | with_reducible refine Below.setCell ?_ (by first | omega | (simp; done) | (simp; omega)) _ | with_reducible refine Below.grown ?_ (by assumption) (by first | omega | (simp; done) | (simp; omega)) (by intro k hk; cases hk; omega) | with_reducible refine Below.trans ?_ (Below.mono (by assumption) (by first | omega | (simp; done) | (simp; omega)))))⟩
theorem vP_iff {l x y : Int} {bs : List Fl} : vP l x y bs = true ↔ ((1 ≤ l ∧ l ≤ 9999) ∧ (1 ≤ x ∧ x ≤ 200) ∧ (1 ≤ y ∧ y ≤ 200)) ∧ bs.length ≤ 6 ∧ AllTo (flS (f0 bs) (f1 bs) (f2 bs) (f3 bs) x y) bs.length := by rw [vP_eq]; exact vPiece_iff
theorem of_cells {w : World} {B g n c : Nat} {bs : List Fl} (h : OF w B g n c bs) {i : Nat} (hi : i < n) : w.cell? ⟨g, i * 4, none⟩ = some (.int .i64 (f0 bs i)) ∧ w.cell? ⟨g, i * 4 + 1, none⟩ = some (.int .i64 (f1 bs i)) ∧ w.cell? ⟨g, i * 4 + 2, none⟩ = some (.int .i64 (f2 bs i)) ∧ w.cell? ⟨g, i * 4 + 3, none⟩ = some (.int .i64 (f3 bs i)) := by
  have hi' : i < bs.length := h.len ▸ hi
  have e : fl bs i = bs[i] := by simp [fl, hi']
  have k0 := h.cell hi (j := 0) (by omega)
  have k1 := h.cell hi (j := 1) (by omega)
  have k2 := h.cell hi (j := 2) (by omega)
  have k3 := h.cell hi (j := 3) (by omega)
  unfold f0 f1 f2 f3
  rw [e]
  exact ⟨k0, k1, k2, k3⟩
theorem fl_meets {a b c d x y : Int} (h : vBox a b c d = true) (hi : inside a b c d 0 0 x y = true) (hs : vBox 0 0 x y = true) : meets a b c d 0 0 x y = true := by
  obtain ⟨a1, a2, a3, a4, a5, a6, a7, a8⟩ := vBox_bd h
  unfold inside at hi
  have hi := of_decide_eq_true hi
  unfold meets
  rw [mW_eq, mW_eq]
  exact decide_eq_true ⟨by omega, by omega⟩
set_option maxHeartbeats 1000000 in
theorem impl_meetsFlaw_c {w : World} {B : Nat} {v : Value} {bs : List Fl} {x y : Int} (h : OFl w B v bs) (hl : bs.length ≤ 1000) (hs : vBox 0 0 x y = true) (hall : AllTo (flS (f0 bs) (f1 bs) (f2 bs) (f3 bs) x y) bs.length) : Calls Try.prog 83 #[v, (.agg #[.int .i64 0, .int .i64 0, .int .i64 x, .int .i64 y])] w (Rt (.bool (decide (0 < bs.length))) w) := by
  rcases h with ⟨rfl, rfl⟩ | ⟨g, c, rfl, h⟩
  · go_enter Try.func83, Try.ntmps83
    go_wp2_with fail
    go_loopw [11] (fun i wr => i = .int .i64 0 ∧ wr = w.alloc (.cells #[(.int .i64 0), (.int .i64 0), (.int .i64 x), (.int .i64 y)] 78)) (fun _ _ => (0 : Nat))
    case atStart => exact ⟨rfl, rfl⟩
    case round =>
      obtain ⟨rfl, rfl⟩ := hrel
      go_wp2
      go_ret
      exact ⟨rfl, (by repeat' (first | with_reducible exact Below.refl _ _ | with_reducible refine Below.alloc ?_ (by first | omega | (simp; done) | (simp; omega)) _ | with_reducible refine Below.drew ?_ | with_reducible refine below_drewN ?_ _ | with_reducible refine Below.setCell ?_ (by first | omega | (simp; done) | (simp; omega)) _ | with_reducible refine Below.grown ?_ (by assumption) (by first | omega | (simp; done) | (simp; omega)) (by intro k hk; cases hk; omega) | with_reducible refine Below.trans ?_ (Below.mono (by assumption) (by first | omega | (simp; done) | (simp; omega)))))⟩
  · by_cases h0 : 0 < bs.length
    · have hfl := hall 0 h0
      unfold flS at hfl
      simp only [Bool.and_eq_true] at hfl
      have CM := fun W => impl_MeetOf_c (f0 bs 0) (f1 bs 0) (f2 bs 0) (f3 bs 0) 0 0 x y W
      rw [meetVal_yes hfl.1 hs (fl_meets hfl.1 hfl.2 hs)] at CM
      obtain ⟨c0, c1, c2, c3⟩ := of_cells h h0
      have hgl := h.lt
      obtain ⟨z0, hz0⟩ : ∃ z, z = f0 bs 0 := ⟨_, rfl⟩
      obtain ⟨z1, hz1⟩ : ∃ z, z = f1 bs 0 := ⟨_, rfl⟩
      obtain ⟨z2, hz2⟩ : ∃ z, z = f2 bs 0 := ⟨_, rfl⟩
      obtain ⟨z3, hz3⟩ : ∃ z, z = f3 bs 0 := ⟨_, rfl⟩
      rw [← hz0, ← hz1, ← hz2, ← hz3] at CM
      rw [← hz0] at c0
      rw [← hz1] at c1
      rw [← hz2] at c2
      rw [← hz3] at c3
      simp only [Nat.zero_mul, Nat.zero_add] at c0 c1 c2 c3
      obtain ⟨q0, hq0⟩ : ∃ q, q = mX z0 0 := ⟨_, rfl⟩
      obtain ⟨q1, hq1⟩ : ∃ q, q = mX z1 0 := ⟨_, rfl⟩
      obtain ⟨q2, hq2⟩ : ∃ q, q = mW z0 z2 0 x := ⟨_, rfl⟩
      obtain ⟨q3, hq3⟩ : ∃ q, q = mW z1 z3 0 y := ⟨_, rfl⟩
      rw [← hq0, ← hq1, ← hq2, ← hq3] at CM
      obtain ⟨n, hn⟩ : ∃ n, n = bs.length := ⟨_, rfl⟩
      have d0 := mkhid (decide_eq_true h0)
      rw [← hn] at hl h0 ⊢ d0
      have i2 : (0 : Int) < (n : Int) := by omega
      have hg2 : g < w.heap.size + 1 := by omega
      have hgn : ¬ (g = w.heap.size) := by omega
      have hgn2 : ¬ (w.heap.size = g) := by omega
      clear hz0 hz1 hz2 hz3 hq0 hq1 hq2 hq3 hfl hall h hs hn
      rw [d0.out]
      go_enter Try.func83, Try.ntmps83
      go_wp2_with fail
      go_loopw [11] (fun i wr => i = .int .i64 0 ∧ wr = w.alloc (.cells #[(.int .i64 0), (.int .i64 0), (.int .i64 x), (.int .i64 y)] 78)) (fun _ _ => (0 : Nat))
      case atStart => exact ⟨rfl, rfl⟩
      case round =>
        obtain ⟨rfl, rfl⟩ := hrel
        go_wp2_with fail
        go_at_call 71
        refine (CM _).mono ?_
        rintro e w1 ⟨rfl, hb1⟩
        obtain ⟨hc1, hf1, -, hz1⟩ := bcell hb1
        (try simp at hz1)
        (try (have y1 : w.heap.size ≤ w1.heap.size := by omega))
        (try (have z1_0_0 : w.heap.size < w1.heap.size := by omega))
        (try (have z1_0_1 : w.heap.size + 1 < w1.heap.size := by omega))
        (try (have z1_0_2 : w.heap.size + 1 + 1 < w1.heap.size := by omega))
        (try (have z1_0_3 : w.heap.size + 1 + 1 + 1 < w1.heap.size := by omega))
        go_wp2_with fail
        go_ret
        exact ⟨rfl, (by repeat' (first | with_reducible exact Below.refl _ _ | with_reducible refine Below.alloc ?_ (by first | omega | (simp; done) | (simp; omega)) _ | with_reducible refine Below.drew ?_ | with_reducible refine below_drewN ?_ _ | with_reducible refine Below.setCell ?_ (by first | omega | (simp; done) | (simp; omega)) _ | with_reducible refine Below.grown ?_ (by assumption) (by first | omega | (simp; done) | (simp; omega)) (by intro k hk; cases hk; omega) | with_reducible refine Below.trans ?_ (Below.mono (by assumption) (by first | omega | (simp; done) | (simp; omega)))))⟩
    · have hn0 : bs = [] := List.eq_nil_of_length_eq_zero (by omega)
      subst hn0
      go_enter Try.func83, Try.ntmps83
      go_wp2_with fail
      go_loopw [11] (fun i wr => i = .int .i64 0 ∧ wr = w.alloc (.cells #[(.int .i64 0), (.int .i64 0), (.int .i64 x), (.int .i64 y)] 78)) (fun _ _ => (0 : Nat))
      case atStart => exact ⟨rfl, rfl⟩
      case round =>
        obtain ⟨rfl, rfl⟩ := hrel
        go_wp2
        go_ret
        exact ⟨rfl, (by repeat' (first | with_reducible exact Below.refl _ _ | with_reducible refine Below.alloc ?_ (by first | omega | (simp; done) | (simp; omega)) _ | with_reducible refine Below.drew ?_ | with_reducible refine below_drewN ?_ _ | with_reducible refine Below.setCell ?_ (by first | omega | (simp; done) | (simp; omega)) _ | with_reducible refine Below.grown ?_ (by assumption) (by first | omega | (simp; done) | (simp; omega)) (by intro k hk; cases hk; omega) | with_reducible refine Below.trans ?_ (Below.mono (by assumption) (by first | omega | (simp; done) | (simp; omega)))))⟩
end Go.Proofs.Ytjanjaabcinkiaa
