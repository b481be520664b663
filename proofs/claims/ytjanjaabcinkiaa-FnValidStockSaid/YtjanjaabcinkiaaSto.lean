/- Stocks: own rows of pieces; ValidStock (spec and impl), StockArea; no statement is proved here. -/
import Derived.Test.YtjanjaabcinkiaaFlw3
namespace Go.Proofs.Ytjanjaabcinkiaa
open Go.ChangeShapes Go.WideShapes Go.ChangeAt Go.RowKit Go.Deep
set_option linter.unusedVariables false
set_option linter.unusedSimpArgs false

structure Pc where
  l : Int
  x : Int
  y : Int
  v : Value
  bs : List Fl
instance : Inhabited Pc := ⟨⟨0, 0, 0, .bool false, []⟩⟩
def pcK (p : Pc) : List Value := [(.int .i64 p.l), (.int .i64 p.x), (.int .i64 p.y), p.v]
theorem pcK_len (p : Pc) : (pcK p).length = 4 := rfl
abbrev OP (w : World) (B g n c : Nat) (ps : List Pc) : Prop := OG pcK 4 65 w B g n c ps
/-- each piece's flaws lie somewhere, and its sides are small -/
def FA (w : World) (B : Nat) (ps : List Pc) : Prop := ∀ p ∈ ps, OFl w B p.v p.bs ∧ p.bs.length ≤ 1000 ∧ (0 ≤ p.x ∧ p.x ≤ 201 ∧ 0 ≤ p.y ∧ p.y ≤ 201)
theorem FA.below {W w : World} {B : Nat} {ps : List Pc} (h : FA W B ps) (hb : Below W.heap.size W w) : FA w B ps := fun p hp => ⟨(h p hp).1.below hb, (h p hp).2⟩
def pc (ps : List Pc) (i : Nat) : Pc := ps.getD i ⟨0, 0, 0, .bool false, []⟩
theorem pc_mem {ps : List Pc} {i : Nat} (h : i < ps.length) : pc ps i ∈ ps := by
  have : pc ps i = ps[i] := by simp [pc, h]
  rw [this]; exact List.getElem_mem h
theorem op_cells {w : World} {B g n c : Nat} {ps : List Pc} (h : OP w B g n c ps) {i : Nat} (hi : i < n) : w.cell? ⟨g, i * 4, none⟩ = some (.int .i64 ((pc ps i).l)) ∧ w.cell? ⟨g, i * 4 + 1, none⟩ = some (.int .i64 ((pc ps i).x)) ∧ w.cell? ⟨g, i * 4 + 2, none⟩ = some (.int .i64 ((pc ps i).y)) ∧ w.cell? ⟨g, i * 4 + 3, none⟩ = some (pc ps i).v := by
  have hi' : i < ps.length := h.len ▸ hi
  have e : pc ps i = ps[i] := by simp [pc, hi']
  have k0 := h.cell hi (j := 0) (by omega)
  have k1 := h.cell hi (j := 1) (by omega)
  have k2 := h.cell hi (j := 2) (by omega)
  have k3 := h.cell hi (j := 3) (by omega)
  rw [e]
  exact ⟨k0, k1, k2, k3⟩
/-- piece i is valid, and its label is greater than the one before -/
def stOk (ps : List Pc) (i : Nat) : Bool := vP (pc ps i).l (pc ps i).x (pc ps i).y (pc ps i).bs && decide (i = 0 ∨ (pc ps (i - 1)).l < (pc ps i).l)
theorem stOk_iff {ps : List Pc} {i : Nat} : stOk ps i = true ↔ vP (pc ps i).l (pc ps i).x (pc ps i).y (pc ps i).bs = true ∧ (i = 0 ∨ (pc ps (i - 1)).l < (pc ps i).l) := by unfold stOk; rw [Bool.and_eq_true, decide_eq_true_eq]
@[irreducible] def vS (ps : List Pc) : Bool := allB (stOk ps) 20 ps.length
theorem vS_iff {ps : List Pc} : vS ps = true ↔ ps.length ≤ 20 ∧ AllTo (stOk ps) ps.length := by unfold vS; exact allB_iff
theorem vS_no {ps : List Pc} (h : ¬ (ps.length ≤ 20 ∧ AllTo (stOk ps) ps.length)) : vS ps = false := by unfold vS; exact allB_no h
theorem vS_bad {ps : List Pc} {i : Nat} (hi : i < ps.length) (h : ¬ (vP (pc ps i).l (pc ps i).x (pc ps i).y (pc ps i).bs = true ∧ (i = 0 ∨ (pc ps (i - 1)).l < (pc ps i).l))) : vS ps = false :=
  vS_no (fun hh => h (stOk_iff.1 (hh.2 i hi)))
theorem vP_lab {l x y : Int} {bs : List Fl} (h : vP l x y bs = true) : (1 ≤ l ∧ l ≤ 9999) ∧ (1 ≤ x ∧ x ≤ 200) ∧ (1 ≤ y ∧ y ≤ 200) := (vP_iff.1 h).1
/-- the label before piece k -/
def bef (ps : List Pc) : Nat → Int
  | 0 => 0
  | k + 1 => (pc ps k).l
set_option maxHeartbeats 2000000 in
theorem impl_ValidStock_c {w : World} {B B' g n c : Nat} {ps : List Pc} (h : OP w B g n c ps) (hf : FA w B' ps) (hn : n ≤ 1000) : Calls Try.prog 46 #[.slice (some ⟨g, 0, none⟩) n c] w (Rt (.bool (vS ps)) w) := by
  have hlen := h.len
  by_cases q : n ≤ 20
  · have d0 : decide ((20 : Int) < (n : Int)) = false := decide_eq_false (by omega)
    have HL := mkhid hlen
    have HH := mkhid (⟨h, hf⟩ : _ ∧ _)
    have hgl := h.lt
    clear h hf hlen
    go_enter Try.func46, Try.ntmps46
    go_wp2_with fail
    go_loopw [3, 11] (fun b i wr => ∃ k : Nat, k ≤ n ∧ i = .int .i64 k ∧ b = .int .i64 (bef ps k) ∧ Hid (AllTo (stOk ps) k) ∧ Below w.heap.size w wr) (fun _ i _ => n - (intOf i).toNat)
    case atStart => exact ⟨0, Nat.zero_le _, rfl, rfl, AllTo.zero _, Below.refl _ _⟩
    case round =>
      obtain ⟨k, hk, rfl, rfl, HB, hbr⟩ := hrel
      have hsz := hbr.size
      by_cases hlt : k < n
      · have i1 : (0 : Int) ≤ (k : Int) := by omega
        have i2 : (k : Int) < (n : Int) := by omega
        have hlt' : k < ps.length := by rw [HL.out]; exact hlt
        obtain ⟨hF1, hF2, hF3⟩ := HH.out.2 _ (pc_mem hlt')
        obtain ⟨c0, c1, c2, c3⟩ := op_cells (HH.out.1.below hbr) hlt
        have CV := fun W (hb : Below w.heap.size w W) => impl_ValidPiece_f (pc ps k).l (pc ps k).x (pc ps k).y (hF1.below hb) hF2
        obtain ⟨pv, cv, hv⟩ := hF1.form
        have hstep := fun e => stOk_iff (ps := ps) (i := k) |>.2 e
        have hbad := fun e => vS_bad (ps := ps) (i := k) hlt' e
        have hlab := fun e => vP_lab (l := (pc ps k).l) (x := (pc ps k).x) (y := (pc ps k).y) (bs := (pc ps k).bs) e
        obtain ⟨P, hP⟩ : ∃ P, P = pc ps k := ⟨_, rfl⟩
        rw [← hP] at c0 c1 c2 c3 CV hv hstep hbad hlab
        obtain ⟨V, hV⟩ : ∃ V, V = vP P.l P.x P.y P.bs := ⟨_, rfl⟩
        rw [← hV] at CV hstep hbad hlab
        obtain ⟨nb, hnb⟩ : ∃ n, n = P.bs.length := ⟨_, rfl⟩
        rw [← hnb] at hv
        rw [hv] at c3 CV
        obtain ⟨x0, hx0⟩ : ∃ x, x = P.l := ⟨_, rfl⟩
        obtain ⟨x1, hx1⟩ : ∃ x, x = P.x := ⟨_, rfl⟩
        obtain ⟨x2, hx2⟩ : ∃ x, x = P.y := ⟨_, rfl⟩
        rw [← hx0] at c0 CV hstep hbad hlab
        rw [← hx1] at c1 CV hlab
        rw [← hx2] at c2 CV hlab
        obtain ⟨b, hb0⟩ : ∃ b, b = bef ps k := ⟨_, rfl⟩
        have hord : (k = 0 ∧ b = 0) ∨ (0 < k ∧ b = (pc ps (k - 1)).l) := by
          cases k with
          | zero => exact Or.inl ⟨rfl, hb0⟩
          | succ k => exact Or.inr ⟨by omega, hb0⟩
        have hnext : bef ps (k + 1) = x0 := by rw [hx0, hP]; rfl
        rw [← hb0]
        have HNX := mkhid hnext
        have HA := mkhid (⟨hstep, hbad, hlab, hord⟩ : _ ∧ _ ∧ _ ∧ _)
        have hgne : ¬ (g = wr.heap.size) := by omega
        have hgne2 : ¬ (wr.heap.size = g) := by omega
        have hgr : g < wr.heap.size := by omega
        clear hx0 hx1 hx2 hP hv hV hnb hb0 hF1 hF2 hF3 hstep hbad hlab hord hnext hlt'
        cases V
        · have hg : Hid (vS ps = false) := HA.out.2.1 (fun e => absurd e.1 (by decide))
          go_wp2_with fail
          go_at_call 43
          refine (CV _ (by have := hbr; exact (by repeat' (first | with_reducible exact Below.refl _ _ | with_reducible refine Below.alloc ?_ (by first | omega | (simp; done) | (simp; omega)) _ | with_reducible refine Below.drew ?_ | with_reducible refine below_drewN ?_ _ | with_reducible refine Below.setCell ?_ (by first | omega | (simp; done) | (simp; omega)) _ | with_reducible refine Below.grown ?_ (by assumption) (by first | omega | (simp; done) | (simp; omega)) (by intro k hk; cases hk; omega) | with_reducible refine Below.trans ?_ (Below.mono (by assumption) (by first | omega | (simp; done) | (simp; omega))))))).mono ?_
          rintro e w1 ⟨rfl, hb1⟩
          obtain ⟨hc1, hf1, -, hz1⟩ := bcell hb1
          (try simp at hz1)
          (try (have y1 : w.heap.size ≤ w1.heap.size := by omega))
          (try (have z1_0_0 : w.heap.size < w1.heap.size := by omega))
          (try (have z1_0_1 : w.heap.size + 1 < w1.heap.size := by omega))
          (try (have z1_0_2 : w.heap.size + 1 + 1 < w1.heap.size := by omega))
          (try (have z1_0_3 : w.heap.size + 1 + 1 + 1 < w1.heap.size := by omega))
          go_wp2_with fail
          go_ret
          exact ⟨ret_bool hg.out.symm, by have := hbr; exact (by repeat' (first | with_reducible exact Below.refl _ _ | with_reducible refine Below.alloc ?_ (by first | omega | (simp; done) | (simp; omega)) _ | with_reducible refine Below.drew ?_ | with_reducible refine below_drewN ?_ _ | with_reducible refine Below.setCell ?_ (by first | omega | (simp; done) | (simp; omega)) _ | with_reducible refine Below.grown ?_ (by assumption) (by first | omega | (simp; done) | (simp; omega)) (by intro k hk; cases hk; omega) | with_reducible refine Below.trans ?_ (Below.mono (by assumption) (by first | omega | (simp; done) | (simp; omega)))))⟩
        · by_cases hle : x0 ≤ b
          · have d1 : decide (x0 ≤ b) = true := decide_eq_true hle
            have hg : Hid (vS ps = false) := HA.out.2.1 (fun e => by
              have hl := HA.out.2.2.1 rfl
              rcases HA.out.2.2.2 with ⟨e1, e2⟩ | ⟨e1, e2⟩
              · omega
              · rcases e.2 with e3 | e3
                · omega
                · rw [← e2] at e3; omega)
            go_wp2_with fail
            go_at_call 43
            refine (CV _ (by have := hbr; exact (by repeat' (first | with_reducible exact Below.refl _ _ | with_reducible refine Below.alloc ?_ (by first | omega | (simp; done) | (simp; omega)) _ | with_reducible refine Below.drew ?_ | with_reducible refine below_drewN ?_ _ | with_reducible refine Below.setCell ?_ (by first | omega | (simp; done) | (simp; omega)) _ | with_reducible refine Below.grown ?_ (by assumption) (by first | omega | (simp; done) | (simp; omega)) (by intro k hk; cases hk; omega) | with_reducible refine Below.trans ?_ (Below.mono (by assumption) (by first | omega | (simp; done) | (simp; omega))))))).mono ?_
            rintro e w1 ⟨rfl, hb1⟩
            obtain ⟨hc1, hf1, -, hz1⟩ := bcell hb1
            (try simp at hz1)
            (try (have y1 : w.heap.size ≤ w1.heap.size := by omega))
            (try (have z1_0_0 : w.heap.size < w1.heap.size := by omega))
            (try (have z1_0_1 : w.heap.size + 1 < w1.heap.size := by omega))
            (try (have z1_0_2 : w.heap.size + 1 + 1 < w1.heap.size := by omega))
            (try (have z1_0_3 : w.heap.size + 1 + 1 + 1 < w1.heap.size := by omega))
            go_wp2_with fail
            go_ret
            exact ⟨ret_bool hg.out.symm, by have := hbr; exact (by repeat' (first | with_reducible exact Below.refl _ _ | with_reducible refine Below.alloc ?_ (by first | omega | (simp; done) | (simp; omega)) _ | with_reducible refine Below.drew ?_ | with_reducible refine below_drewN ?_ _ | with_reducible refine Below.setCell ?_ (by first | omega | (simp; done) | (simp; omega)) _ | with_reducible refine Below.grown ?_ (by assumption) (by first | omega | (simp; done) | (simp; omega)) (by intro k hk; cases hk; omega) | with_reducible refine Below.trans ?_ (Below.mono (by assumption) (by first | omega | (simp; done) | (simp; omega)))))⟩
          · have d1 : decide (x0 ≤ b) = false := decide_eq_false hle
            have hok := mkhid (HB.out.succ (HA.out.1 ⟨rfl, by
              rcases HA.out.2.2.2 with ⟨e1, e2⟩ | ⟨e1, e2⟩
              · exact Or.inl e1
              · exact Or.inr (by rw [← e2]; omega)⟩))
            go_wp2_with fail
            go_at_call 43
            refine (CV _ (by have := hbr; exact (by repeat' (first | with_reducible exact Below.refl _ _ | with_reducible refine Below.alloc ?_ (by first | omega | (simp; done) | (simp; omega)) _ | with_reducible refine Below.drew ?_ | with_reducible refine below_drewN ?_ _ | with_reducible refine Below.setCell ?_ (by first | omega | (simp; done) | (simp; omega)) _ | with_reducible refine Below.grown ?_ (by assumption) (by first | omega | (simp; done) | (simp; omega)) (by intro k hk; cases hk; omega) | with_reducible refine Below.trans ?_ (Below.mono (by assumption) (by first | omega | (simp; done) | (simp; omega))))))).mono ?_
            rintro e w1 ⟨rfl, hb1⟩
            obtain ⟨hc1, hf1, -, hz1⟩ := bcell hb1
            (try simp at hz1)
            (try (have y1 : w.heap.size ≤ w1.heap.size := by omega))
            (try (have z1_0_0 : w.heap.size < w1.heap.size := by omega))
            (try (have z1_0_1 : w.heap.size + 1 < w1.heap.size := by omega))
            (try (have z1_0_2 : w.heap.size + 1 + 1 < w1.heap.size := by omega))
            (try (have z1_0_3 : w.heap.size + 1 + 1 + 1 < w1.heap.size := by omega))
            go_wp2_with fail
            go_roundw
            case rel => exact ⟨k + 1, by omega, by go_num, by rw [HNX.out], hok, by have := hbr; exact (by repeat' (first | with_reducible exact Below.refl _ _ | with_reducible refine Below.alloc ?_ (by first | omega | (simp; done) | (simp; omega)) _ | with_reducible refine Below.drew ?_ | with_reducible refine below_drewN ?_ _ | with_reducible refine Below.setCell ?_ (by first | omega | (simp; done) | (simp; omega)) _ | with_reducible refine Below.grown ?_ (by assumption) (by first | omega | (simp; done) | (simp; omega)) (by intro k hk; cases hk; omega) | with_reducible refine Below.trans ?_ (Below.mono (by assumption) (by first | omega | (simp; done) | (simp; omega)))))⟩
            case measure => first | (simp [intOf]; done) | (simp [intOf]; omega)
      · have hkn : k = n := by omega
        have hg : Hid (vS ps = true) := vS_iff.2 ⟨by rw [HL.out]; exact q, by rw [HL.out, ← hkn]; exact HB.out⟩
        go_wp2
        go_ret
        exact ⟨ret_bool hg.out.symm, hbr⟩
  · have d0 : decide ((20 : Int) < (n : Int)) = true := decide_eq_true (by omega)
    have hg : Hid (vS ps = false) := vS_no (fun hh => by rw [hlen] at hh; exact q hh.1)
    clear h hf hlen
    go_enter Try.func46, Try.ntmps46
    go_wp2
    go_ret
    exact ⟨ret_bool hg.out.symm, (by repeat' (first | with_reducible exact Below.refl _ _ | with_reducible refine Below.alloc ?_ (by first | omega | (simp; done) | (simp; omega)) _ | with_reducible refine Below.drew ?_ | with_reducible refine below_drewN ?_ _ | with_reducible refine Below.setCell ?_ (by first | omega | (simp; done) | (simp; omega)) _ | with_reducible refine Below.grown ?_ (by assumption) (by first | omega | (simp; done) | (simp; omega)) (by intro k hk; cases hk; omega) | with_reducible refine Below.trans ?_ (Below.mono (by assumption) (by first | omega | (simp; done) | (simp; omega)))))⟩
end Go.Proofs.Ytjanjaabcinkiaa
