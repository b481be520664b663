/- Own rows of lines; addPanes of spec; no statement is proved here. -/
import Derived.Test.YtjanjaabcinkiaaGl
namespace Go.Proofs.Ytjanjaabcinkiaa
open Go.ChangeShapes Go.WideShapes Go.ChangeAt Go.RowKit Go.Deep
set_option linter.unusedVariables false
set_option linter.unusedSimpArgs false

structure Ln where
  w : Int
  h : Int
  t : Bool
  k : Int
  c : Int
instance : Inhabited Ln := ⟨⟨0, 0, false, 0, 0⟩⟩
def lnK (l : Ln) : List Value := [(.int .i64 l.w), (.int .i64 l.h), .bool l.t, (.int .i64 l.k), (.int .i64 l.c)]
theorem lnK_len (l : Ln) : (lnK l).length = 5 := rfl
theorem lnK_one : ∀ l, ∀ u ∈ lnK l, u.oneCell' = true := by
  intro l u hu
  simp [lnK] at hu
  rcases hu with rfl | rfl | rfl | rfl | rfl <;> rfl
abbrev OL (w : World) (B g n c : Nat) (ls : List Ln) : Prop := OG lnK 5 91 w B g n c ls
theorem ol_cells {w : World} {B g n c : Nat} {ls : List Ln} (h : OL w B g n c ls) {i : Nat} (hi : i < n) : ∃ l, ls[i]? = some l ∧ w.cell? ⟨g, i * 5, none⟩ = some (.int .i64 l.w) ∧ w.cell? ⟨g, i * 5 + 1, none⟩ = some (.int .i64 l.h) ∧ w.cell? ⟨g, i * 5 + 2, none⟩ = some (.bool l.t) ∧ w.cell? ⟨g, i * 5 + 3, none⟩ = some (.int .i64 l.k) ∧ w.cell? ⟨g, i * 5 + 4, none⟩ = some (.int .i64 l.c) := by
  have hi' : i < ls.length := h.len ▸ hi
  exact ⟨ls[i], List.getElem?_eq_getElem hi', h.cell hi (j := 0) (by omega), h.cell hi (j := 1) (by omega), h.cell hi (j := 2) (by omega), h.cell hi (j := 3) (by omega), h.cell hi (j := 4) (by omega)⟩
theorem ol_setC {w : World} {B g n c : Nat} {ls : List Ln} (h : OL w B g n c ls) {k : Nat} (hk : k < n) (x : Int) : ∃ ls', OL (w.setCell ⟨g, k * 5 + 4, none⟩ (.int .i64 x)) B g n c ls' := by
  have hk' : k < ls.length := h.len ▸ hk
  exact ⟨_, h.set hk (j := 4) (by omega) (.int .i64 x) ⟨ls[k].w, ls[k].h, ls[k].t, ls[k].k, x⟩ rfl⟩
theorem infoLine : (Try.prog.info? 91).map (fun i => (i.zero, i.size, i.bytes)) = some (some (.agg #[.int .i64 0, .int .i64 0, .bool false, .int .i64 0, .int .i64 0]), 5, 40) := by kernel_rfl
theorem five_at (w : World) (E : TypeId) (B : Nat) (a b c d e : Value) (h : w.heap.size = B) : ∀ (j : Nat) (u : Value), ([a, b, c, d, e] : List Value)[j]? = some u → (w.alloc (.cells #[a, b, c, d, e] E)).cell? (Addr.add ⟨B, 0, none⟩ j) = some u := by
  intro j u hu
  subst h
  match j, hu with
  | 0, h => simp at h; subst h; go_simp
  | 1, h => simp at h; subst h; go_simp
  | 2, h => simp at h; subst h; go_simp
  | 3, h => simp at h; subst h; go_simp
  | 4, h => simp at h; subst h; go_simp
  | j + 5, h => simp at h
/-- an order is returned, in new memory -/
def FrO (m : Nat) (w : World) : Ending → World → Prop := fun e w' => ∃ g n c ls, e = .returned (.slice (some ⟨g, 0, none⟩) n c) ∧ OL w' w.heap.size g n c ls ∧ n ≤ m ∧ Below w.heap.size w w'
set_option maxHeartbeats 2000000 in
theorem addPanes_c {w : World} {B g n c : Nat} {ls : List Ln} (h : OL w B g n c ls) (hn : n ≤ 1000) (pw ph : Int) (pt : Bool) (pk q : Int) : Calls Try.prog 103 #[.slice (some ⟨g, 0, none⟩) n c, (.agg #[.int .i64 pw, .int .i64 ph, .bool pt, .int .i64 pk]), (.int .i64 q)] w (FrO (n + 1) w) := by
  obtain ⟨i0, hi, iz0, iz1, iz2⟩ := info_parts infoLine
  obtain ⟨hl1, hl2⟩ := h.all
  have hlen := h.len
  have hB := h.lt
  have h0 : OL ((w.alloc (.cells #[(.int .i64 pw), (.int .i64 ph), .bool pt, (.int .i64 pk)] 87)).alloc (.cells #[] 91)) (w.heap.size + 1) (w.heap.size + 1) 0 0 [] := OG.empty lnK_len (by omega) (by simp) (by simp)
  have hl3 : ∀ j u, (flatG lnK ls)[j]? = some u → ((w.alloc (.cells #[(.int .i64 pw), (.int .i64 ph), .bool pt, (.int .i64 pk)] 87)).alloc (.cells #[] 91)).cell? (Addr.add ⟨g, 0, none⟩ j) = some u := fun j u hu => by
    have := hl2 j u hu
    rw [Go.WideShapes.add_plain] at this ⊢
    have hb : Below w.heap.size w ((w.alloc (.cells #[(.int .i64 pw), (.int .i64 ph), .bool pt, (.int .i64 pk)] 87)).alloc (.cells #[] 91)) := (by repeat' (first | with_reducible exact Below.refl _ _ | with_reducible refine Below.alloc ?_ (by first | omega | (simp; done) | (simp; omega)) _ | with_reducible refine Below.drew ?_ | with_reducible refine below_drewN ?_ _ | with_reducible refine Below.setCell ?_ (by first | omega | (simp; done) | (simp; omega)) _ | with_reducible refine Below.grown ?_ (by assumption) (by first | omega | (simp; done) | (simp; omega)) (by intro k hk; cases hk; omega) | with_reducible refine Below.trans ?_ (Below.mono (by assumption) (by first | omega | (simp; done) | (simp; omega)))))
    exact (hb.cell (p := ⟨g, _, none⟩) hB).trans this
  go_enter Try.func103, Try.ntmps103
  go_wp2_with (at_builtin; refine wpList_append_own _ rfl _ _ 47 rfl (w.heap.size + 1) 91 i0 (.agg #[.int .i64 0, .int .i64 0, .bool false, .int .i64 0, .int .i64 0]) 5 40 Try.underlying47 hi iz0 iz1 iz2 rfl (by decide) _ 0 [] rfl h0.row ⟨g, 0, none⟩ n c (flatG lnK ls) rfl hl1 hl3 (flatG_one' lnK_one ls) (by unfold maxLen; omega) (by omega) (by first | omega | (simp; done) | (simp; omega)) ?_; intro v1 w1 hown1 hgrow1 hnil1; obtain ⟨g1, c1, rfl, ho1⟩ := h0.app hlen rfl hown1 hnil1)
  rw [Nat.zero_add] at ho1
  rw [List.nil_append] at ho1
  have hgr : World.grownBy _ w1 (some (w.heap.size + 1)) := hgrow1
  have hq := gb_at hgr (b := w.heap.size) (by simp; omega) (by omega)
  have q0 : w1.cell? ⟨w.heap.size, 0, none⟩ = some (.int .i64 pw) := (hq.1 0).trans (by go_simp)
  have q1 : w1.cell? ⟨w.heap.size, 1, none⟩ = some (.int .i64 ph) := (hq.1 1).trans (by go_simp)
  have q2 : w1.cell? ⟨w.heap.size, 2, none⟩ = some (.bool pt) := (hq.1 2).trans (by go_simp)
  have q3 : w1.cell? ⟨w.heap.size, 3, none⟩ = some (.int .i64 pk) := (hq.1 3).trans (by go_simp)
  have hB1 : Below w.heap.size w w1 := Below.grown ((by repeat' (first | with_reducible exact Below.refl _ _ | with_reducible refine Below.alloc ?_ (by first | omega | (simp; done) | (simp; omega)) _ | with_reducible refine Below.drew ?_ | with_reducible refine below_drewN ?_ _ | with_reducible refine Below.setCell ?_ (by first | omega | (simp; done) | (simp; omega)) _ | with_reducible refine Below.grown ?_ (by assumption) (by first | omega | (simp; done) | (simp; omega)) (by intro k hk; cases hk; omega) | with_reducible refine Below.trans ?_ (Below.mono (by assumption) (by first | omega | (simp; done) | (simp; omega)))))) hgr (by simp; omega) (fun k hk => by cases hk; omega)
  have hz1 := hgr.size
  (try simp at hz1)
  clear hq hgr hown1 hgrow1 hnil1 hl1 hl2 hl3 h0 h
  go_loopw [8] (fun i wr => ∃ k : Nat, k ≤ n ∧ i = .int .i64 k ∧ Drew w1 wr) (fun i _ => n - (intOf i).toNat)
  case atStart => exact ⟨0, Nat.zero_le _, rfl, Drew.refl _⟩
  case round =>
    obtain ⟨k, hk, rfl, hd⟩ := hrel
    have hbr := hd.below
    have hzr := hbr.size
    have ho := ho1.below hbr
    by_cases hlt : k < n
    · have i1 : (0 : Int) ≤ (k : Int) := by omega
      have i2 : (k : Int) < (n : Int) := by omega
      obtain ⟨l, hll, c0, c1', c2, c3, c4⟩ := ol_cells ho hlt
      obtain ⟨x0, hx0⟩ : ∃ x, x = l.w := ⟨_, rfl⟩
      obtain ⟨x1, hx1⟩ : ∃ x, x = l.h := ⟨_, rfl⟩
      obtain ⟨x2, hx2⟩ : ∃ x, x = l.t := ⟨_, rfl⟩
      obtain ⟨x3, hx3⟩ : ∃ x, x = l.k := ⟨_, rfl⟩
      obtain ⟨x4, hx4⟩ : ∃ x, x = l.c := ⟨_, rfl⟩
      rw [← hx0] at c0
      rw [← hx1] at c1'
      rw [← hx2] at c2
      rw [← hx3] at c3
      rw [← hx4] at c4
      have r0 := (hbr.cell (p := ⟨w.heap.size, 0, none⟩) (by simp; omega)).trans q0
      have r1 := (hbr.cell (p := ⟨w.heap.size, 1, none⟩) (by simp; omega)).trans q1
      have r2 := (hbr.cell (p := ⟨w.heap.size, 2, none⟩) (by simp; omega)).trans q2
      have r3 := (hbr.cell (p := ⟨w.heap.size, 3, none⟩) (by simp; omega)).trans q3
      have hB2 := hB1.trans (hbr.mono hB1.size)
      have hfr := ho.frozen (k * 5 + 4)
      clear hx0 hx1 hx2 hx3 hx4 hll
      have hcase : ¬ (x0 = pw) ∨ (x0 = pw ∧ ¬ (x1 = ph)) ∨ (x0 = pw ∧ x1 = ph ∧ ¬ (x2 = pt)) ∨ (x0 = pw ∧ x1 = ph ∧ x2 = pt ∧ ¬ (x3 = pk)) ∨ (x0 = pw ∧ x1 = ph ∧ x2 = pt ∧ x3 = pk) := by
        by_cases z0 : x0 = pw <;> by_cases z1 : x1 = ph <;> by_cases z2 : x2 = pt <;> by_cases z3 : x3 = pk <;> simp_all
      rcases hcase with z0 | ⟨rfl, z1⟩ | ⟨rfl, rfl, z2⟩ | ⟨rfl, rfl, rfl, z3⟩ | ⟨rfl, rfl, rfl, rfl⟩
      iterate 4
        · go_wp2_with fail
          go_quiet (fail)
          go_wp2_with fail
          go_roundw
          case rel => exact ⟨k + 1, by omega, by go_num, (by repeat (first | exact Drew.refl _ | assumption | refine Drew.drewN ?_ _ | refine Drew.drew ?_))⟩
          case measure => simp [intOf]; omega
      · go_wp2_with fail
        go_quiet (fail)
        go_wp2_with fail
        obtain ⟨ls', hs⟩ := ol_setC (OG.below ho (below_drewN (Below.refl _ _) nq)) hlt (wrap64 (x4 + q))
        go_ret
        have hge := ho.ge
        exact ⟨g1, n, c1, ls', rfl, hs.le (by omega), by omega, (below_drewN hB2 nq).setCell (p := ⟨g1, _, none⟩) (by show w.heap.size ≤ g1; omega) _⟩
    · have hkn : k = n := by omega
      subst hkn
      have r0 := (hbr.cell (p := ⟨w.heap.size, 0, none⟩) (by simp; omega)).trans q0
      have r1 := (hbr.cell (p := ⟨w.heap.size, 1, none⟩) (by simp; omega)).trans q1
      have r2 := (hbr.cell (p := ⟨w.heap.size, 2, none⟩) (by simp; omega)).trans q2
      have r3 := (hbr.cell (p := ⟨w.heap.size, 3, none⟩) (by simp; omega)).trans q3
      go_wp2_with (at_builtin; refine wpList_append_own _ rfl _ _ 47 rfl (w.heap.size + 1) 91 i0 (.agg #[.int .i64 0, .int .i64 0, .bool false, .int .i64 0, .int .i64 0]) 5 40 Try.underlying47 hi iz0 iz1 iz2 rfl (by decide) _ k _ rfl (ho.alloc _).row ⟨wr.heap.size, 0, none⟩ 1 1 [(.int .i64 pw), (.int .i64 ph), .bool pt, (.int .i64 pk), (.int .i64 q)] rfl rfl (five_at _ _ _ _ _ _ _ _ (by first | rfl | simp)) (by intro u hu; simp at hu; rcases hu with rfl | rfl | rfl | rfl | rfl <;> rfl) (by unfold maxLen; omega) (by omega) (by first | omega | (simp; done) | (simp; omega)) ?_; intro v2 w2 hown2 hgrow2 hnil2; obtain ⟨g2, c2', rfl, ho2⟩ := ho.app (ys := [⟨pw, ph, pt, pk, q⟩]) rfl rfl hown2 hnil2)
      have hgr2 : World.grownBy _ w2 (some g1) := hgrow2
      have hge := ho.ge
      have hB2 := hB1.trans (hbr.mono hB1.size)
      have hz2 := hB2.size
      go_ret
      exact ⟨g2, k + 1, c2', _, rfl, ho2.le (by omega), by omega, Below.grown (hB2.alloc (by omega) _) hgr2 (by simp; omega) (fun k hk => by cases hk; omega)⟩
end Go.Proofs.Ytjanjaabcinkiaa
