/- Stocks: ValidStock of spec, StockArea of impl; no statement is proved here. -/
import Derived.Test.YtjanjaabcinkiaaSto
namespace Go.Proofs.Ytjanjaabcinkiaa
open Go.ChangeShapes Go.WideShapes Go.ChangeAt Go.RowKit Go.Deep
set_option linter.unusedVariables false
set_option linter.unusedSimpArgs false

set_option maxRecDepth 20000 in
set_option maxHeartbeats 3000000 in
theorem spec_validStock_c {w : World} {B B' g n c : Nat} {ps : List Pc} (h : OP w B g n c ps) (hf : FA w B' ps) (hn : n ≤ 1000) : Calls Try.prog 81 #[.slice (some ⟨g, 0, none⟩) n c] w (Rt (.bool (vS ps)) w) := by
  have hlen := h.len
  have HL := mkhid hlen
  have HH := mkhid (⟨h, hf⟩ : _ ∧ _)
  have hgl := h.lt
  clear h hf hlen
  go_enter Try.func81, Try.ntmps81
  go_wp2_with fail
  go_loopw [3] (fun i wr => ∃ k : Nat, k ≤ n ∧ i = .int .i64 k ∧ Hid (AllTo (stOk ps) k) ∧ Below w.heap.size w wr) (fun i _ => n - (intOf i).toNat)
  case atStart => exact ⟨0, Nat.zero_le _, rfl, AllTo.zero _, Below.refl _ _⟩
  case round =>
    obtain ⟨k, hk, rfl, HB, hbr⟩ := hrel
    have hsz := hbr.size
    by_cases hlt : k < n
    · have i1 : (0 : Int) ≤ (k : Int) := by omega
      have i2 : (k : Int) < (n : Int) := by omega
      have hlt' : k < ps.length := by rw [HL.out]; exact hlt
      obtain ⟨hF1, hF2, hF3⟩ := HH.out.2 _ (pc_mem hlt')
      obtain ⟨c0, c1, c2, c3⟩ := op_cells (HH.out.1.below hbr) hlt
      have CV := fun z : Bw wr => spec_validPiece_f (l := (pc ps k).l) (x := (pc ps k).x) (y := (pc ps k).y) (hF1.below (hbr.trans (z.h.mono hsz))) hF2 ⟨hF3.1, hF3.2.1⟩ hF3.2.2
      obtain ⟨pv, cv, hv⟩ := hF1.form
      have hstep := fun e => stOk_iff (ps := ps) (i := k) |>.2 e
      have hbad := fun e => vS_bad (ps := ps) (i := k) hlt' e
      obtain ⟨P, hP⟩ : ∃ P, P = pc ps k := ⟨_, rfl⟩
      rw [← hP] at c0 c1 c2 c3 CV hv hstep hbad
      obtain ⟨V, hV⟩ : ∃ V, V = vP P.l P.x P.y P.bs := ⟨_, rfl⟩
      rw [← hV] at CV hstep hbad
      obtain ⟨nb, hnb⟩ : ∃ n, n = P.bs.length := ⟨_, rfl⟩
      rw [← hnb] at hv
      rw [hv] at c3 CV
      obtain ⟨x0, hx0⟩ : ∃ x, x = P.l := ⟨_, rfl⟩
      obtain ⟨x1, hx1⟩ : ∃ x, x = P.x := ⟨_, rfl⟩
      obtain ⟨x2, hx2⟩ : ∃ x, x = P.y := ⟨_, rfl⟩
      rw [← hx0] at c0 CV hstep hbad
      rw [← hx1] at c1 CV
      rw [← hx2] at c2 CV
      have HA := mkhid (⟨hstep, hbad⟩ : _ ∧ _)
      have F0 := fun z : Bw wr => z.cell c0
      have F1 := fun z : Bw wr => z.cell c1
      have F2 := fun z : Bw wr => z.cell c2
      have F3 := fun z : Bw wr => z.cell c3
      clear hx0 hx1 hx2 hP hv hV hnb hF1 hF2 hF3 hstep hbad hlt'
      cases V
      · have hg : Hid (vS ps = false) := HA.out.2 (fun e => absurd e.1 (by decide))
        go_wp2_with fail
        refine region_bw (W := wr) (by kernel_rfl) (by kernel_rfl) (Below.refl _ _) ?_
        repeat (go_big_quiet_step ((go_at_call 75; with_reducible exact calls_bw (CV _))))
        refine wpQuiet_nil ?_
        rintro _ ⟨⟨wz, hbwz⟩, rfl⟩
        (try dsimp only)
        go_wp2
        go_ret
        exact ⟨ret_bool hg.out.symm, hbr.trans (hbwz.mono hsz)⟩
      · cases k with
        | zero =>
          have hok := mkhid (HB.out.succ (HA.out.1 ⟨rfl, Or.inl rfl⟩))
          simp only [Nat.zero_mul, Nat.zero_add] at F0 F1 F2 F3 c0 c1 c2 c3
          go_wp2_with fail
          refine region_bw (W := wr) (by kernel_rfl) (by kernel_rfl) (Below.refl _ _) ?_
          repeat (go_big_quiet_step ((go_at_call 75; with_reducible exact calls_bw (CV _))))
          refine wpQuiet_nil ?_
          rintro _ ⟨⟨wz, hbwz⟩, rfl⟩
          (try dsimp only)
          go_wp2_with fail
          go_roundw
          case rel => exact ⟨1, by omega, by go_num, hok, hbr.trans (hbwz.mono hsz)⟩
          case measure => first | (simp [intOf]; done) | (simp [intOf]; omega)
        | succ q =>
          have hq : q < n := by omega
          obtain ⟨d0, -, -, -⟩ := op_cells (HH.out.1.below hbr) hq
          obtain ⟨y0, hy0⟩ : ∃ y, y = (pc ps q).l := ⟨_, rfl⟩
          rw [← hy0] at d0
          have G0 := fun z : Bw wr => z.cell d0
          have j1 : (0 : Int) ≤ (q : Int) := by omega
          have j2 : (q : Int) < (n : Int) := by omega
          have j3 : decide ((0 : Int) < ((q + 1 : Nat) : Int)) = true := decide_eq_true (by omega)
          have j4 : (0 : Int) < (q : Int) + 1 := by omega
          have HY := mkhid hy0
          clear hy0
          by_cases hle : x0 ≤ y0
          · have d1 : decide (x0 ≤ y0) = true := decide_eq_true hle
            have hg : Hid (vS ps = false) := HA.out.2 (fun e => by
              rcases e.2 with e3 | e3
              · omega
              · have e4 : (pc ps q).l < x0 := e3
                rw [← HY.out] at e4; omega)
            go_wp2_with fail
            refine region_bw (W := wr) (by kernel_rfl) (by kernel_rfl) (Below.refl _ _) ?_
            repeat (go_big_quiet_step ((go_at_call 75; with_reducible exact calls_bw (CV _))))
            refine wpQuiet_nil ?_
            rintro _ ⟨⟨wz, hbwz⟩, rfl⟩
            (try dsimp only)
            go_wp2
            go_ret
            exact ⟨ret_bool hg.out.symm, hbr.trans (hbwz.mono hsz)⟩
          · have d1 : decide (x0 ≤ y0) = false := decide_eq_false hle
            have hok := mkhid (HB.out.succ (HA.out.1 ⟨rfl, Or.inr (by
              show (pc ps q).l < x0
              rw [← HY.out]; omega)⟩))
            go_wp2_with fail
            refine region_bw (W := wr) (by kernel_rfl) (by kernel_rfl) (Below.refl _ _) ?_
            repeat (go_big_quiet_step ((go_at_call 75; with_reducible exact calls_bw (CV _))))
            refine wpQuiet_nil ?_
            rintro _ ⟨⟨wz, hbwz⟩, rfl⟩
            (try dsimp only)
            go_wp2_with fail
            go_roundw
            case rel => exact ⟨q + 1 + 1, by omega, by go_num, hok, hbr.trans (hbwz.mono hsz)⟩
            case measure => first | (simp [intOf]; done) | (simp [intOf]; omega)
    · have hkn : k = n := by omega
      by_cases q : n ≤ 20
      · have d0 : decide ((n : Int) ≤ 20) = true := decide_eq_true (by omega)
        have hg : Hid (vS ps = true) := vS_iff.2 ⟨by rw [HL.out]; exact q, by rw [HL.out, ← hkn]; exact HB.out⟩
        go_wp2
        go_ret
        exact ⟨ret_bool hg.out.symm, hbr⟩
      · have d0 : decide ((n : Int) ≤ 20) = false := decide_eq_false (by omega)
        have hg : Hid (vS ps = false) := vS_no (fun hh => by rw [HL.out] at hh; exact q hh.1)
        go_wp2
        go_ret
        exact ⟨ret_bool hg.out.symm, hbr⟩
theorem spec_ValidStock_c {w : World} {B B' g n c : Nat} {ps : List Pc} (h : OP w B g n c ps) (hf : FA w B' ps) (hn : n ≤ 1000) : Calls Try.prog 47 #[.slice (some ⟨g, 0, none⟩) n c] w (Rt (.bool (vS ps)) w) := by
  have CP := fun W (hb : Below w.heap.size w W) => spec_validStock_c (h.below hb) (hf.below hb) hn
  clear h hf hn
  go_enter Try.func47, Try.ntmps47
  go_wp2_with (go_at_call 81; refine (CP _ (by repeat' (first | with_reducible exact Below.refl _ _ | with_reducible refine Below.alloc ?_ (by first | omega | (simp; done) | (simp; omega)) _ | with_reducible refine Below.drew ?_ | with_reducible refine below_drewN ?_ _ | with_reducible refine Below.setCell ?_ (by first | omega | (simp; done) | (simp; omega)) _ | with_reducible refine Below.grown ?_ (by assumption) (by first | omega | (simp; done) | (simp; omega)) (by intro k hk; cases hk; omega) | with_reducible refine Below.trans ?_ (Below.mono (by assumption) (by first | omega | (simp; done) | (simp; omega)))))).mono ?_; rintro e w1 ⟨rfl, hb1⟩; obtain ⟨hc1, hf1, -, hz1⟩ := bcell hb1; (try simp at hz1); (try (have zw0 : w.heap.size < w1.heap.size := by omega)); (try (have zw1 : w.heap.size + 1 < w1.heap.size := by omega)); (try (have zw2 : w.heap.size + 1 + 1 < w1.heap.size := by omega)); (try (have zw3 : w.heap.size + 1 + 1 + 1 < w1.heap.size := by omega)); (try (have zw4 : w.heap.size + 1 + 1 + 1 + 1 < w1.heap.size := by omega)); (try (have zw5 : w.heap.size + 1 + 1 + 1 + 1 + 1 < w1.heap.size := by omega)))
  go_ret
  exact ⟨rfl, (by repeat' (first | with_reducible exact Below.refl _ _ | with_reducible refine Below.alloc ?_ (by first | omega | (simp; done) | (simp; omega)) _ | with_reducible refine Below.drew ?_ | with_reducible refine below_drewN ?_ _ | with_reducible refine Below.setCell ?_ (by first | omega | (simp; done) | (simp; omega)) _ | with_reducible refine Below.grown ?_ (by assumption) (by first | omega | (simp; done) | (simp; omega)) (by intro k hk; cases hk; omega) | with_reducible refine Below.trans ?_ (Below.mono (by assumption) (by first | omega | (simp; done) | (simp; omega)))))⟩
def arS (ps : List Pc) : Nat → Int
  | 0 => 0
  | k + 1 => arS ps k + (pc ps k).x * (pc ps k).y
theorem stOk_sides {ps : List Pc} (h : AllTo (stOk ps) ps.length) {i : Nat} (hi : i < ps.length) : (1 ≤ (pc ps i).x ∧ (pc ps i).x ≤ 200) ∧ (1 ≤ (pc ps i).y ∧ (pc ps i).y ≤ 200) := by
  have := vP_lab (stOk_iff.1 (h i hi)).1
  exact ⟨this.2.1, this.2.2⟩
theorem mul_bd {x y : Int} (hx : 1 ≤ x ∧ x ≤ 200) (hy : 1 ≤ y ∧ y ≤ 200) : 1 ≤ x * y ∧ x * y ≤ 40000 := by
  have h1 : 1 * 1 ≤ x * y := Int.mul_le_mul hx.1 hy.1 (by omega) (by omega)
  have h2 : x * y ≤ 200 * 200 := Int.mul_le_mul hx.2 hy.2 (by omega) (by omega)
  omega
theorem arS_bd {ps : List Pc} (h : AllTo (stOk ps) ps.length) (k : Nat) (hk : k ≤ ps.length) : (k : Int) ≤ arS ps k ∧ arS ps k ≤ 40000 * k := by
  induction k with
  | zero => unfold arS; omega
  | succ k ih =>
    have := ih (by omega)
    obtain ⟨h1, h2⟩ := stOk_sides h (i := k) (by omega)
    have := mul_bd h1 h2
    unfold arS
    omega
set_option maxHeartbeats 2000000 in
theorem impl_StockArea_c {w : World} {B B' g n c : Nat} {ps : List Pc} (h : OP w B g n c ps) (hf : FA w B' ps) (hn : n ≤ 1000) (hv : vS ps = true) : Calls Try.prog 48 #[.slice (some ⟨g, 0, none⟩) n c] w (Rt (.int .i64 (arS ps n)) w) := by
  have CP := fun W (hb : Below w.heap.size w W) => impl_ValidStock_c (h.below hb) (hf.below hb) hn
  rw [hv] at CP
  obtain ⟨h20, hall⟩ := vS_iff.1 hv
  have hlen := h.len
  rw [hlen] at h20
  have HL := mkhid hlen
  have HA := mkhid hall
  have HH := mkhid (⟨h, hf⟩ : _ ∧ _)
  have hgl := h.lt
  clear h hf hlen hv hall
  go_enter Try.func48, Try.ntmps48
  go_wp2_with fail
  go_at_call 46
  refine (CP _ (by repeat' (first | with_reducible exact Below.refl _ _ | with_reducible refine Below.alloc ?_ (by first | omega | (simp; done) | (simp; omega)) _ | with_reducible refine Below.drew ?_ | with_reducible refine below_drewN ?_ _ | with_reducible refine Below.setCell ?_ (by first | omega | (simp; done) | (simp; omega)) _ | with_reducible refine Below.grown ?_ (by assumption) (by first | omega | (simp; done) | (simp; omega)) (by intro k hk; cases hk; omega) | with_reducible refine Below.trans ?_ (Below.mono (by assumption) (by first | omega | (simp; done) | (simp; omega)))))).mono ?_
  rintro e w1 ⟨rfl, hb1⟩
  obtain ⟨hc1, hf1, -, hz1⟩ := bcell hb1
  (try simp at hz1)
  (try (have y1 : w.heap.size ≤ w1.heap.size := by omega))
  (try (have z1_0_0 : w.heap.size < w1.heap.size := by omega))
  (try (have z1_0_1 : w.heap.size + 1 < w1.heap.size := by omega))
  (try (have z1_0_2 : w.heap.size + 1 + 1 < w1.heap.size := by omega))
  (try (have z1_0_3 : w.heap.size + 1 + 1 + 1 < w1.heap.size := by omega))
  go_wp2_with fail
  have hB1 : Below w.heap.size w w1 := (by repeat' (first | with_reducible exact Below.refl _ _ | with_reducible refine Below.alloc ?_ (by first | omega | (simp; done) | (simp; omega)) _ | with_reducible refine Below.drew ?_ | with_reducible refine below_drewN ?_ _ | with_reducible refine Below.setCell ?_ (by first | omega | (simp; done) | (simp; omega)) _ | with_reducible refine Below.grown ?_ (by assumption) (by first | omega | (simp; done) | (simp; omega)) (by intro k hk; cases hk; omega) | with_reducible refine Below.trans ?_ (Below.mono (by assumption) (by first | omega | (simp; done) | (simp; omega)))))
  clear CP hc1 hf1 hb1
  go_loopw [3, 11] (fun s i wr => ∃ k : Nat, k ≤ n ∧ i = .int .i64 k ∧ s = .int .i64 (arS ps k) ∧ Below w.heap.size w wr) (fun _ i _ => n - (intOf i).toNat)
  case atStart => exact ⟨0, Nat.zero_le _, rfl, rfl, hB1⟩
  case round =>
    obtain ⟨k, hk, rfl, rfl, hbr⟩ := hrel
    have hsz := hbr.size
    by_cases hlt : k < n
    · have i1 : (0 : Int) ≤ (k : Int) := by omega
      have i2 : (k : Int) < (n : Int) := by omega
      have hlt' : k < ps.length := by rw [HL.out]; exact hlt
      obtain ⟨hF1, -, -⟩ := HH.out.2 _ (pc_mem hlt')
      obtain ⟨c0, c1, c2, c3⟩ := op_cells (HH.out.1.below hbr) hlt
      obtain ⟨pv, cv, hv⟩ := hF1.form
      have hab := arS_bd HA.out k (by rw [HL.out]; exact hk)
      obtain ⟨hx, hy⟩ := stOk_sides HA.out hlt'
      have hsucc : arS ps (k + 1) = arS ps k + (pc ps k).x * (pc ps k).y := rfl
      rw [hv] at c3
      obtain ⟨nb, hnb⟩ : ∃ n, n = (pc ps k).bs.length := ⟨_, rfl⟩
      rw [← hnb] at c3
      obtain ⟨x0, hx0⟩ : ∃ x, x = (pc ps k).l := ⟨_, rfl⟩
      obtain ⟨x1, hx1⟩ : ∃ x, x = (pc ps k).x := ⟨_, rfl⟩
      obtain ⟨x2, hx2⟩ : ∃ x, x = (pc ps k).y := ⟨_, rfl⟩
      rw [← hx0] at c0
      rw [← hx1] at c1 hx hsucc
      rw [← hx2] at c2 hy hsucc
      have hmb := mul_bd hx hy
      obtain ⟨S, hS⟩ : ∃ S, S = arS ps k := ⟨_, rfl⟩
      rw [← hS] at hab hsucc ⊢
      have HS := mkhid hsucc
      have w2' : IntKind.i64.wrap (x1 * x2) = x1 * x2 := IntWalk.i64_in _ (by omega)
      have w3' : IntKind.i64.wrap (S + x1 * x2) = S + x1 * x2 := IntWalk.i64_in _ (by omega)
      have hgne : ¬ (g = wr.heap.size) := by omega
      clear hx0 hx1 hx2 hS hsucc hv hnb hF1 hlt' hab hmb
      go_wp2_with fail
      go_roundw
      case rel => exact ⟨k + 1, by omega, by go_num, by rw [HS.out], (by repeat' (first | with_reducible exact Below.refl _ _ | with_reducible refine Below.alloc ?_ (by first | omega | (simp; done) | (simp; omega)) _ | with_reducible refine Below.drew ?_ | with_reducible refine below_drewN ?_ _ | with_reducible refine Below.setCell ?_ (by first | omega | (simp; done) | (simp; omega)) _ | with_reducible refine Below.grown ?_ (by assumption) (by first | omega | (simp; done) | (simp; omega)) (by intro k hk; cases hk; omega) | with_reducible refine Below.trans ?_ (Below.mono (by assumption) (by first | omega | (simp; done) | (simp; omega)))))⟩
      case measure => first | (simp [intOf]; done) | (simp [intOf]; omega)
    · have hkn : k = n := by omega
      subst hkn
      go_wp2
      go_ret
      exact ⟨rfl, hbr⟩
end Go.Proofs.Ytjanjaabcinkiaa
