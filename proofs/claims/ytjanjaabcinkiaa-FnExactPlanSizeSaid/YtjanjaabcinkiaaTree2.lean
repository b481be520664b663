/- szPlan, toPlan, eqPlan of the laws; no statement is proved here. -/
import Derived.Test.YtjanjaabcinkiaaTree
import Derived.Test.YtjanjaabcinkiaaCls
namespace Go.Proofs.Ytjanjaabcinkiaa
open Go.ChangeShapes Go.WideShapes Go.ChangeAt Go.RowKit Go.Deep
set_option linter.unusedVariables false
set_option linter.unusedSimpArgs false

def szV (left : Int) (t : Pl) : Int := if (t.sz : Int) ≤ left then left - t.sz else -1
/-- what szPlan does with a plan -/
def SzP (t : Pl) : Prop := ∀ (B : Nat) (v : Value) (w : World) (left : Int), KT B w t v → 0 ≤ left → left ≤ 1048576 → Calls Try.prog 14 #[(.agg #[.int .i64 t.op, .int .i64 t.pos, .int .i64 t.pane, .bool t.tu, v]), (.int .i64 left)] w (Rt (.int .i64 (szV left t)) w)
set_option maxHeartbeats 1000000 in
theorem szPlanS_c (t : Pl) (ih : ∀ i, i < t.n → SzP (t.kid i)) (B : Nat) (v : Value) (w : World) (left : Int) (h : KT B w t v) (h0 : 0 ≤ left) (h1 : left ≤ 1048576) : Calls Try.prog 52 #[v, (.int .i64 left)] w (Rt (.int .i64 (szV left t)) w) := by
  obtain ⟨hm, p', cap', hv, _⟩ := h.form
  have hm' := hm
  unfold maxLen at hm'
  by_cases hn : (t.n : Int) ≤ left
  · obtain ⟨p, cap, kv, rfl, hk, hr⟩ := h.rsl (by omega)
    clear hv
    obtain ⟨S, hS⟩ : ∃ S : Nat → Nat, S = sumTo (fun i => (t.kid i).sz) := ⟨_, rfl⟩
    have hsz : t.sz = t.n + S t.n := by rw [hS]; exact t.sz_eq
    have hS1 : ∀ k, S (k + 1) = S k + (t.kid k).sz := fun k => by rw [hS]; rfl
    have hSm : ∀ k, k ≤ t.n → S k ≤ S t.n := fun k hk => by rw [hS]; exact sumTo_mono _ hk
    have hS0 : S 0 = 0 := by rw [hS]; rfl
    clear hS
    obtain ⟨n, hnn⟩ : ∃ n, t.n = n := ⟨_, rfl⟩
    rw [hnn] at hm hm' hn hk hr hsz hSm ih ⊢
    clear hnn h
    have HR := mkhid (⟨ih, hk, hr, hS1, hSm, hsz⟩ : _ ∧ _ ∧ _ ∧ _ ∧ _ ∧ _)
    clear ih hk hr hS1 hSm hsz
    have d1 : decide (left - (n : Int) < 0) = false := decide_eq_false (by omega)
    have s1 : IntKind.i64.wrap (left - (n : Int)) = left - (n : Int) := IntWalk.i64_in _ (by omega)
    go_enter Try.func52, Try.ntmps52
    go_wp2_with fail
    go_loopw [1, 5] (fun l i wr => ∃ k : Nat, k ≤ n ∧ i = .int .i64 k ∧ l = .int .i64 (left - n - S k) ∧ (S k : Int) ≤ left - n ∧ Below w.heap.size w wr) (fun _ i _ => n - (intOf i).toNat)
    case atStart => exact ⟨0, Nat.zero_le _, rfl, by rw [hS0]; simp, by rw [hS0]; simp; omega, Below.refl _ _⟩
    case round =>
      obtain ⟨k, hk', rfl, rfl, hSk, hbr⟩ := hrel
      obtain ⟨ih, hk, hr, hS1, hSm, hsz⟩ := HR.out
      obtain ⟨L, hL⟩ : ∃ L : Int, L = left - n - S k := ⟨_, rfl⟩
      rw [← hL]
      by_cases hlt : k < n
      · have i1 : (0 : Int) ≤ (k : Int) := by omega
        have i2 : (k : Int) < (n : Int) := by omega
        obtain ⟨b, off, rfl, hbb, hR⟩ := hr k hlt
        obtain ⟨c0, c1, c2, c3, c4⟩ := plan_cells (hR.below hbr) hlt
        have hc := fun W (hb : Below w.heap.size w W) => ih k hlt B (kv k) W L (KT.below hb _ _ (hk k hlt)) (by omega) (by omega)
        have e1 := hS1 k
        have e2 := hSm (k + 1) hlt
        have hsz' := hbr.size
        obtain ⟨q, hq⟩ : ∃ q, q = t.kid k := ⟨_, rfl⟩
        rw [← hq] at c0 c1 c2 c3 hc e1
        obtain ⟨x0, hx0⟩ : ∃ x, x = q.op := ⟨_, rfl⟩
        obtain ⟨x1, hx1⟩ : ∃ x, x = q.pos := ⟨_, rfl⟩
        obtain ⟨x2, hx2⟩ : ∃ x, x = q.pane := ⟨_, rfl⟩
        obtain ⟨x3, hx3⟩ : ∃ x, x = q.tu := ⟨_, rfl⟩
        obtain ⟨x4, hx4⟩ : ∃ x, x = kv k := ⟨_, rfl⟩
        rw [← hx0, ← hx1, ← hx2, ← hx3, ← hx4] at hc
        rw [← hx0] at c0
        rw [← hx1] at c1
        rw [← hx2] at c2
        rw [← hx3] at c3
        rw [← hx4] at c4
        have HC := hc wr hbr
        by_cases hle : (q.sz : Int) ≤ L
        · have hv : szV L q = L - q.sz := by unfold szV; rw [if_pos hle]
          have hv' : L - q.sz = left - n - S (k + 1) := by omega
          rw [hv, hv'] at HC
          have hpos : (S (k + 1) : Int) ≤ left - n := by omega
          have d2 : decide (left - (n : Int) - (S (k + 1) : Int) < 0) = false := decide_eq_false (by omega)
          have HP := mkhid hpos
          clear hx0 hx1 hx2 hx3 hx4 hc ih hk hr hS1 hSm hsz hq hL hle hv hv' e1 e2 hSk hpos
          go_wp2_with (go_at_call 14; refine HC.mono ?_; rintro e w2 ⟨rfl, hb2⟩)
          go_roundw
          case rel => exact ⟨k + 1, by omega, by go_num, rfl, HP.out, (by repeat' (first | with_reducible exact Below.refl _ _ | with_reducible refine Below.alloc ?_ (by first | omega | (simp; done) | (simp; omega)) _ | with_reducible refine Below.drew ?_ | with_reducible refine below_drewN ?_ _ | with_reducible refine Below.setCell ?_ (by first | omega | (simp; done) | (simp; omega)) _ | with_reducible refine Below.grown ?_ (by assumption) (by first | omega | (simp; done) | (simp; omega)) (by intro k hk; cases hk; omega) | with_reducible refine Below.trans ?_ (Below.mono (by assumption) (by first | omega | (simp; done) | (simp; omega)))))⟩
          case measure => first | (simp [intOf]; done) | (simp [intOf]; omega)
        · have hv : szV L q = -1 := by unfold szV; rw [if_neg hle]
          rw [hv] at HC
          have hg : Hid (szV left t = -1) := by show _ = _; unfold szV; rw [if_neg (by omega)]
          clear hx0 hx1 hx2 hx3 hx4 hc ih hk hr hS1 hSm hsz hq hL hle hv e1 e2 hSk
          go_wp2_with (go_at_call 14; refine HC.mono ?_; rintro e w2 ⟨rfl, hb2⟩)
          go_ret
          exact ⟨ret_int hg.out.symm, (by repeat' (first | with_reducible exact Below.refl _ _ | with_reducible refine Below.alloc ?_ (by first | omega | (simp; done) | (simp; omega)) _ | with_reducible refine Below.drew ?_ | with_reducible refine below_drewN ?_ _ | with_reducible refine Below.setCell ?_ (by first | omega | (simp; done) | (simp; omega)) _ | with_reducible refine Below.grown ?_ (by assumption) (by first | omega | (simp; done) | (simp; omega)) (by intro k hk; cases hk; omega) | with_reducible refine Below.trans ?_ (Below.mono (by assumption) (by first | omega | (simp; done) | (simp; omega)))))⟩
      · have hkn : k = n := by omega
        have hg : Hid (szV left t = L) := by show _ = _; rw [hkn] at hSk hL; unfold szV; rw [if_pos (by omega), hL]; omega
        clear ih hk hr hS1 hSm hsz
        go_wp2_with fail
        go_ret
        exact ⟨ret_int hg.out.symm, hbr⟩
  · subst hv
    have d1 : decide (left - (t.n : Int) < 0) = true := decide_eq_true (by omega)
    have s1 : IntKind.i64.wrap (left - (t.n : Int)) = left - (t.n : Int) := IntWalk.i64_in _ (by omega)
    have hs := t.sz_n
    have hg : Hid (szV left t = -1) := by show _ = _; unfold szV; rw [if_neg (by omega)]
    go_enter Try.func52, Try.ntmps52
    go_wp2
    go_ret
    exact ⟨ret_int hg.out.symm, Below.refl _ _⟩
theorem szV_bd (left : Int) (t : Pl) (h0 : 0 ≤ left) : -1 ≤ szV left t ∧ szV left t ≤ left := by unfold szV; split <;> omega
theorem szPlan_c : ∀ t, SzP t := by
  refine Pl.ind fun t ih => ?_
  intro B v w left h h0 h1
  have HC := fun W (hb : Below w.heap.size w W) => szPlanS_c t ih B v W left (KT.below hb _ _ h) h0 h1
  obtain ⟨hb1, hb2⟩ := szV_bd left t h0
  obtain ⟨x0, hx0⟩ : ∃ x, x = t.op := ⟨_, rfl⟩
  obtain ⟨x1, hx1⟩ : ∃ x, x = t.pos := ⟨_, rfl⟩
  obtain ⟨x2, hx2⟩ : ∃ x, x = t.pane := ⟨_, rfl⟩
  obtain ⟨x3, hx3⟩ : ∃ x, x = t.tu := ⟨_, rfl⟩
  obtain ⟨S, hS⟩ : ∃ S, S = szV left t := ⟨_, rfl⟩
  have hneg : S < 0 → S = -1 := by omega
  rw [← hx0, ← hx1, ← hx2, ← hx3, ← hS]
  rw [← hS] at HC
  clear hx0 hx1 hx2 hx3 hb1 hb2 hS ih h
  by_cases hs : S < 0
  · obtain rfl := hneg hs
    clear hneg hs
    go_enter Try.func14, Try.ntmps14
    go_wp2_with (go_at_call 52; refine (HC _ (by repeat' (first | with_reducible exact Below.refl _ _ | with_reducible refine Below.alloc ?_ (by first | omega | (simp; done) | (simp; omega)) _ | with_reducible refine Below.drew ?_ | with_reducible refine below_drewN ?_ _ | with_reducible refine Below.setCell ?_ (by first | omega | (simp; done) | (simp; omega)) _ | with_reducible refine Below.grown ?_ (by assumption) (by first | omega | (simp; done) | (simp; omega)) (by intro k hk; cases hk; omega) | with_reducible refine Below.trans ?_ (Below.mono (by assumption) (by first | omega | (simp; done) | (simp; omega)))))).mono ?_; rintro e w2 ⟨rfl, hb2⟩)
    go_ret
    exact ⟨rfl, (by repeat' (first | with_reducible exact Below.refl _ _ | with_reducible refine Below.alloc ?_ (by first | omega | (simp; done) | (simp; omega)) _ | with_reducible refine Below.drew ?_ | with_reducible refine below_drewN ?_ _ | with_reducible refine Below.setCell ?_ (by first | omega | (simp; done) | (simp; omega)) _ | with_reducible refine Below.grown ?_ (by assumption) (by first | omega | (simp; done) | (simp; omega)) (by intro k hk; cases hk; omega) | with_reducible refine Below.trans ?_ (Below.mono (by assumption) (by first | omega | (simp; done) | (simp; omega)))))⟩
  · have d1 : decide (S < 0) = false := decide_eq_false hs
    clear hneg hs
    go_enter Try.func14, Try.ntmps14
    go_wp2_with (go_at_call 52; refine (HC _ (by repeat' (first | with_reducible exact Below.refl _ _ | with_reducible refine Below.alloc ?_ (by first | omega | (simp; done) | (simp; omega)) _ | with_reducible refine Below.drew ?_ | with_reducible refine below_drewN ?_ _ | with_reducible refine Below.setCell ?_ (by first | omega | (simp; done) | (simp; omega)) _ | with_reducible refine Below.grown ?_ (by assumption) (by first | omega | (simp; done) | (simp; omega)) (by intro k hk; cases hk; omega) | with_reducible refine Below.trans ?_ (Below.mono (by assumption) (by first | omega | (simp; done) | (simp; omega)))))).mono ?_; rintro e w2 ⟨rfl, hb2⟩)
    go_ret
    exact ⟨rfl, (by repeat' (first | with_reducible exact Below.refl _ _ | with_reducible refine Below.alloc ?_ (by first | omega | (simp; done) | (simp; omega)) _ | with_reducible refine Below.drew ?_ | with_reducible refine below_drewN ?_ _ | with_reducible refine Below.setCell ?_ (by first | omega | (simp; done) | (simp; omega)) _ | with_reducible refine Below.grown ?_ (by assumption) (by first | omega | (simp; done) | (simp; omega)) (by intro k hk; cases hk; omega) | with_reducible refine Below.trans ?_ (Below.mono (by assumption) (by first | omega | (simp; done) | (simp; omega)))))⟩
end Go.Proofs.Ytjanjaabcinkiaa
