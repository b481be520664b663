/- What the generators of spec draw: stocks; no statement is proved here. -/
import Derived.Test.YtjanjaabcinkiaaSto
import Derived.Test.YtjanjaabcinkiaaFlw2
namespace Go.Proofs.Ytjanjaabcinkiaa
open Go.ChangeShapes Go.WideShapes Go.ChangeAt Go.RowKit Go.Deep
set_option linter.unusedVariables false
set_option linter.unusedSimpArgs false

theorem infoPiece : (Try.prog.info? 65).map (fun i => (i.zero, i.size, i.bytes)) = some (some (.agg #[.int .i64 0, .int .i64 0, .int .i64 0, .slice none 0 0]), 4, 48) := by kernel_rfl
/-- the flaws of the pieces lie in other blocks than h -/
def FN (w : World) (B h : Nat) (ps : List Pc) : Prop := ∀ p ∈ ps, (OFl w B p.v p.bs ∧ p.bs.length ≤ 1000 ∧ (0 ≤ p.x ∧ p.x ≤ 201 ∧ 0 ≤ p.y ∧ p.y ≤ 201)) ∧ p.v.ownBlock ≠ some h
theorem FN.fa {w : World} {B h : Nat} {ps : List Pc} (hf : FN w B h ps) : FA w B ps := fun p hp => (hf p hp).1
theorem FN.below {W w : World} {B h : Nat} {ps : List Pc} (hf : FN W B h ps) (hb : Below W.heap.size W w) : FN w B h ps := fun p hp => ⟨⟨(hf p hp).1.1.below hb, (hf p hp).1.2⟩, (hf p hp).2⟩
theorem FN.low {w w' : World} {B h q : Nat} {ps : List Pc} (hf : FN w B h ps) (hg : w.grownBy w' (some q)) (hq : q < B) : FN w' B h ps := fun p hp => ⟨⟨(hf p hp).1.1.low hg hq, (hf p hp).1.2⟩, (hf p hp).2⟩
theorem FN.le {w : World} {B B' h : Nat} {ps : List Pc} (hf : FN w B h ps) (hb : B' ≤ B) : FN w B' h ps := fun p hp => ⟨⟨(hf p hp).1.1.le hb, (hf p hp).1.2⟩, (hf p hp).2⟩
theorem FN.nil (w : World) (B h : Nat) : FN w B h [] := fun p hp => by simp at hp
theorem FN.step {w w' : World} {B h h' : Nat} {ps : List Pc} (hf : FN w B h ps) (hg : w.grownBy w' (some h)) (hat : h' = h ∨ w.heap.size ≤ h') : FN w' B h' ps := fun p hp => by
  obtain ⟨⟨h1, h2⟩, h3⟩ := hf p hp
  refine ⟨⟨h1.other hg h3, h2⟩, fun e => ?_⟩
  rcases hat with e' | e'
  · subst e'; exact h3 e
  · have := (h1.block h' e).2; omega
theorem FN.add {w : World} {B h : Nat} {ps : List Pc} (hf : FN w B h ps) {p : Pc} (hp : (OFl w B p.v p.bs ∧ p.bs.length ≤ 1000 ∧ (0 ≤ p.x ∧ p.x ≤ 201 ∧ 0 ≤ p.y ∧ p.y ≤ 201)) ∧ p.v.ownBlock ≠ some h) : FN w B h (ps ++ [p]) := fun q hq => by
  rcases List.mem_append.1 hq with e | e
  · exact hf q e
  · rw [List.mem_singleton.1 e]; exact hp
/-- a stock is drawn by a reader -/
def PkS (k B g m : Nat) (w : World) : Ending → World → Prop := fun e w' => ∃ h n c ps, e = .returned (.slice (some ⟨h, 0, none⟩) n c) ∧ OP w' w.heap.size h n c ps ∧ FN w' w.heap.size h ps ∧ n ≤ k ∧ Rdr w' B g m ∧ w.grownBy w' (some g)
theorem at_of {h4 h S : Nat} {v v' : Value} (hat : v'.ownBlock = v.ownBlock ∨ v'.ownBlock = some S) (hv : v'.ownBlock = some h4) (hh : v.ownBlock = some h) : h4 = h ∨ S ≤ h4 := by
  rw [hv, hh] at hat
  rcases hat with e | e
  · injection e with e; exact Or.inl e
  · injection e with e; exact Or.inr (by omega)
set_option maxRecDepth 100000 in
set_option maxHeartbeats 3000000 in
theorem someStock_c {w : World} {B g m : Nat} (hr : Rdr w B g m) (hm : m ≤ 500000) :
    Calls Try.prog 96 #[.pointer (some ⟨g, 0, none⟩)] w (PkS 6 B g (m + 320) w) := by
  obtain ⟨i0, hi, iz0, iz1, iz2⟩ := info_parts infoPiece
  have hH := hr.lt
  have hB := hr.ge
  have hB0 : B ≤ w.heap.size := by omega
  have hr0 := hr
  have ho0 : OP (w.alloc (.cells #[] 65)) w.heap.size w.heap.size 0 0 [] := OG.empty pcK_len (by omega) (by omega) rfl
  go_enter Try.func96, Try.ntmps96
  go_wp2_with fail
  go_at_call 98
  refine (one_c (zs := [2, 3, 1, 4, 0, 6]) (show Rdr _ B g _ by repeat' (first | with_reducible exact hr0 | with_reducible apply Rdr.alloc | with_reducible apply Rdr.drew1 | with_reducible apply Rdr.drew | (apply Rdr.setO (ha := by first | omega | (simp; omega)) (hB := by first | omega | (simp; omega))))) (by omega) (by exact lit_at _ [2, 3, 1, 4, 0, 6] 6 _ rfl (by omega) (by first | rfl | simp)) (by omega) (by first | omega | (simp; omega))).mono ?_
  rintro e w1 ⟨x1, rfl, p1, hr1, hg1⟩
  have q1 : 0 ≤ x1 ∧ x1 ≤ 6 := by simp at p1; omega
  clear p1
  obtain ⟨q1a, q1b⟩ := q1
  obtain ⟨hc1, hf1, hz1⟩ := gcell hg1 hH
  (try simp at hz1)
  (try (have ne1_0_0 : ¬ (w1.heap.size = w.heap.size) := by omega)); (try (have nf1_0_0 : ¬ (w.heap.size = w1.heap.size) := by omega))
  (try (have ne1_0_1 : ¬ (w1.heap.size = w.heap.size + 1) := by omega)); (try (have nf1_0_1 : ¬ (w.heap.size + 1 = w1.heap.size) := by omega))
  (try (have y1 : w.heap.size ≤ w1.heap.size := by omega))
  (try (have z1_0_0 : w.heap.size < w1.heap.size := by omega))
  (try (have z1_0_1 : w.heap.size + 1 < w1.heap.size := by omega))
  (try (have z1_0_2 : w.heap.size + 1 + 1 < w1.heap.size := by omega))
  go_wp2_with fail
  have ho1 := (ho0.below ((Below.refl _ _).alloc (Nat.le_refl _) _)).other hg1 (by omega)
  have hgb1 : w.grownBy w1 (some g) := (by repeat' (first | with_reducible exact World.grownBy.refl _ _ | with_reducible refine gb_alloc ?_ _ | with_reducible refine gb_set ?_ (by first | omega | (simp; omega)) _ | with_reducible refine gb_drewN ?_ _ | with_reducible refine gb_drew1 ?_ | with_reducible refine gb_trans ?_ (by assumption)))
  obtain ⟨x, rfl⟩ : ∃ x : Nat, x1 = x := ⟨x1.toNat, by omega⟩
  clear hc1 hf1
  go_loopw [3, 4, 5] (fun o lb k wr => ∃ j n h c m' : Nat, ∃ L : Int, ∃ ps, k = .int .i64 j ∧ lb = .int .i64 L ∧ o = .slice (some ⟨h, 0, none⟩) n c ∧ 0 ≤ L ∧ L ≤ 3 * n ∧ n + j ≤ 6 ∧ m' + 50 * j ≤ m + 305 ∧ OP wr w.heap.size h n c ps ∧ FN wr w.heap.size h ps ∧ Rdr wr B g m' ∧ w.grownBy wr (some g)) (fun _ _ k _ => (intOf k).toNat)
  case atStart => exact ⟨x, 0, w.heap.size, 0, m + 1, 0, [], rfl, rfl, rfl, by omega, by omega, by omega, by omega, ho1, FN.nil _ _ _, hr1, hgb1⟩
  case round =>
    obtain ⟨j, n, h, c, m', L, ps, rfl, rfl, rfl, hL1, hL2, hnj, hmj, ho, hfn, hr2, hgb⟩ := hrel
    clear ho0 ho1 hr1 hg1 hgb1
    have hr1 := hr2
    have hhw := ho.ge
    have hsz := hgb.size
    have hhl := ho.lt
    by_cases hj : 0 < j
    · obtain ⟨i, rfl⟩ : ∃ i, j = i + 1 := ⟨j - 1, by omega⟩
      have i1 : (0 : Int) < ((i + 1 : Nat) : Int) := by omega
      have s1 : IntKind.i64.wrap (L + 1) = L + 1 := IntWalk.i64_in _ (by omega)
      go_wp2_with fail
      go_at_call 97
      refine (pick_c (show Rdr _ B g _ by repeat' (first | with_reducible exact hr1 | with_reducible apply Rdr.alloc | with_reducible apply Rdr.drew1 | with_reducible apply Rdr.drew | (apply Rdr.setO (ha := by first | omega | (simp; omega)) (hB := by first | omega | (simp; omega))))) (by omega) _).mono ?_
      rintro e w2 ⟨x2, rfl, ⟨p2, q2⟩, hr2, hg2⟩
      replace q2 := q2 (by omega)
      obtain ⟨hc2, hf2, hz2⟩ := gcell hg2 hH
      (try simp at hz2)
      (try (have ne2_0_0 : ¬ (w2.heap.size = w.heap.size) := by omega)); (try (have nf2_0_0 : ¬ (w.heap.size = w2.heap.size) := by omega))
      (try (have ne2_0_1 : ¬ (w2.heap.size = w.heap.size + 1) := by omega)); (try (have nf2_0_1 : ¬ (w.heap.size + 1 = w2.heap.size) := by omega))
      (try (have ne2_1_0 : ¬ (w2.heap.size = w1.heap.size) := by omega)); (try (have nf2_1_0 : ¬ (w1.heap.size = w2.heap.size) := by omega))
      (try (have ne2_1_1 : ¬ (w2.heap.size = w1.heap.size + 1) := by omega)); (try (have nf2_1_1 : ¬ (w1.heap.size + 1 = w2.heap.size) := by omega))
      (try (have y2 : w.heap.size ≤ w2.heap.size := by omega))
      (try (have y2_1 : w1.heap.size ≤ w2.heap.size := by omega))
      (try (have z2_0_0 : w.heap.size < w2.heap.size := by omega))
      (try (have z2_0_1 : w.heap.size + 1 < w2.heap.size := by omega))
      (try (have z2_0_2 : w.heap.size + 1 + 1 < w2.heap.size := by omega))
      (try (have z2_1_0 : w1.heap.size < w2.heap.size := by omega))
      (try (have z2_1_1 : w1.heap.size + 1 < w2.heap.size := by omega))
      have ho2 := ho.other hg2 (by omega)
      have hf2' := hfn.low hg2 (by omega)
      have s2 : IntKind.i64.wrap (L + 1 + x2) = L + 1 + x2 := IntWalk.i64_in _ (by omega)
      clear hc2 hf2
      go_wp2_with fail
      go_at_call 99
      refine (somePiece_c (show Rdr _ B g _ by repeat' (first | with_reducible exact hr2 | with_reducible apply Rdr.alloc | with_reducible apply Rdr.drew1 | with_reducible apply Rdr.drew | (apply Rdr.setO (ha := by first | omega | (simp; omega)) (hB := by first | omega | (simp; omega))))) (by omega) _).mono ?_
      rintro e w3 ⟨l, px, py, u, bs, rfl, hof, hkb, ⟨el, ex1, ex2, ey1, ey2⟩, hr3, hg3⟩
      obtain ⟨hc3, hf3, hz3⟩ := gcell hg3 hH
      (try simp at hz3)
      (try (have ne3_0_0 : ¬ (w3.heap.size = w.heap.size) := by omega)); (try (have nf3_0_0 : ¬ (w.heap.size = w3.heap.size) := by omega))
      (try (have ne3_0_1 : ¬ (w3.heap.size = w.heap.size + 1) := by omega)); (try (have nf3_0_1 : ¬ (w.heap.size + 1 = w3.heap.size) := by omega))
      (try (have ne3_1_0 : ¬ (w3.heap.size = w1.heap.size) := by omega)); (try (have nf3_1_0 : ¬ (w1.heap.size = w3.heap.size) := by omega))
      (try (have ne3_1_1 : ¬ (w3.heap.size = w1.heap.size + 1) := by omega)); (try (have nf3_1_1 : ¬ (w1.heap.size + 1 = w3.heap.size) := by omega))
      (try (have ne3_2_0 : ¬ (w3.heap.size = w2.heap.size) := by omega)); (try (have nf3_2_0 : ¬ (w2.heap.size = w3.heap.size) := by omega))
      (try (have ne3_2_1 : ¬ (w3.heap.size = w2.heap.size + 1) := by omega)); (try (have nf3_2_1 : ¬ (w2.heap.size + 1 = w3.heap.size) := by omega))
      (try (have y3 : w.heap.size ≤ w3.heap.size := by omega))
      (try (have y3_1 : w1.heap.size ≤ w3.heap.size := by omega))
      (try (have y3_2 : w2.heap.size ≤ w3.heap.size := by omega))
      (try (have z3_0_0 : w.heap.size < w3.heap.size := by omega))
      (try (have z3_0_1 : w.heap.size + 1 < w3.heap.size := by omega))
      (try (have z3_0_2 : w.heap.size + 1 + 1 < w3.heap.size := by omega))
      (try (have z3_1_0 : w1.heap.size < w3.heap.size := by omega))
      (try (have z3_1_1 : w1.heap.size + 1 < w3.heap.size := by omega))
      (try (have z3_2_0 : w2.heap.size < w3.heap.size := by omega))
      (try (have z3_2_1 : w2.heap.size + 1 < w3.heap.size := by omega))
      have ho3 := ho2.other hg3 (by omega)
      have hf3' := hf2'.low hg3 (by omega)
      have hgb3 : w.grownBy w3 (some g) := gb_trans (gb_trans hgb hg2) hg3
      have hr3' := hr3
      have hblk := hof.block
      have hof' := hof.le (B' := w.heap.size) (by omega)
      obtain ⟨pv, cv, hv⟩ := hof.form
      obtain ⟨nb, hnb⟩ : ∃ n, n = bs.length := ⟨_, rfl⟩
      have HK := mkhid (⟨hof', hkb⟩ : _ ∧ _)
      rw [← hnb] at hv
      have hune : u.ownBlock ≠ some h := fun e => by have := (hblk h e).1; omega
      clear hc3 hf3 ho ho2 hf2' hfn hof hof' el hblk hnb hkb
      subst hv
      go_wp2_with (at_builtin; refine wpList_append_own_at _ rfl (.tmp 19) (.tmp 23) 70 rfl w.heap.size 65 i0 (.agg #[.int .i64 0, .int .i64 0, .int .i64 0, .slice none 0 0]) 4 48 Try.underlying70 hi iz0 iz1 iz2 rfl (by decide) _ n _ rfl (OG.row (ho3.alloc _)) ⟨w3.heap.size, 0, none⟩ 1 1 [(.int .i64 l), (.int .i64 px), (.int .i64 py), .slice pv nb cv] rfl rfl (four_at _ _ _ _ _ _ _ (by first | rfl | simp)) (by intro u hu; simp at hu; rcases hu with rfl | rfl | rfl | rfl <;> rfl) (by unfold maxLen; omega) (by omega) (by simp; omega) ?_; intro v1 w4 hown4 hgrow4 hnil4 hat4; obtain ⟨h4, c4, rfl, hop4⟩ := OG.app ho3 (ys := [⟨l, px, py, .slice pv nb cv, bs⟩]) (q := 1) rfl rfl hown4 hnil4; have hgr4 : World.grownBy _ w4 (some h) := hgrow4; have hat := at_of (v := .slice (some ⟨h, 0, none⟩) n c) (v' := .slice (some ⟨h4, 0, none⟩) (n + 1) c4) hat4 rfl rfl; have hr4 := Rdr.grown (Rdr.alloc hr3' _) hgr4 (by intro e; injection e with e; omega) (fun r hr => by cases hr; omega); have hgb4 : w.grownBy w4 (some g) := gbO (gb_alloc hgb3 _) hgr4 (by omega); have hfa := (FN.add (hf3'.below ((Below.refl _ _).alloc (Nat.le_refl _) _)) (p := ⟨l, px, py, .slice pv nb cv, bs⟩) ⟨⟨HK.out.1.below ((Below.refl _ _).alloc (Nat.le_refl _) _), Nat.le_trans HK.out.2 (by omega), ⟨(show 0 ≤ px by omega), (show px ≤ 201 by omega), (show 0 ≤ py by omega), (show py ≤ 201 by omega)⟩⟩, hune⟩).step hgr4 hat; clear hown4 hgrow4 hnil4 hat4 hat hgr4)
      go_roundw
      case rel => exact ⟨i, n + 1, h4, c4, _, L + 1 + x2, _, by go_num, rfl, rfl, by omega, by omega, by omega, by omega, hop4, hfa, hr4, hgb4⟩
      case measure => simp [intOf]
    · obtain rfl : j = 0 := by omega
      go_wp2_with fail
      go_ret
      exact ⟨h, n, c, ps, rfl, ho, hfn, by omega, hr2.mono (by omega), hgb⟩
theorem FN.set {w : World} {B h k : Nat} {ps : List Pc} (hf : FN w B h ps) (hk : k < ps.length) (x : Int) : FN w B h (ps.set k ⟨x, ps[k].x, ps[k].y, ps[k].v, ps[k].bs⟩) := fun p hp => by
  rcases List.mem_or_eq_of_mem_set hp with e | e
  · exact hf p e
  · subst e; exact hf (ps[k]) (List.getElem_mem hk)
theorem op_setL {w : World} {B B' g n c : Nat} {ps : List Pc} (h : OP w B g n c ps) (hf : FN w B' g ps) {k : Nat} (hk : k < n) (x : Int) : ∃ ps', OP (w.setCell ⟨g, k * 4, none⟩ (.int .i64 x)) B g n c ps' ∧ FN (w.setCell ⟨g, k * 4, none⟩ (.int .i64 x)) B' g ps' := by
  have hk' : k < ps.length := h.len ▸ hk
  exact ⟨_, h.set hk (j := 0) (by omega) (.int .i64 x) ⟨x, ps[k].x, ps[k].y, ps[k].v, ps[k].bs⟩ rfl, (hf.set hk' x).step (grown_setCell (grown_refl w (some g)) (.int .i64 x)) (Or.inl rfl)⟩
set_option maxRecDepth 100000 in
set_option maxHeartbeats 2000000 in
theorem anyStock_c {w : World} {B g m : Nat} (hr : Rdr w B g m) (hm : m ≤ 400000) :
    Calls Try.prog 79 #[.pointer (some ⟨g, 0, none⟩)] w (PkS 6 B g (m + 340) w) := by
  have hH := hr.lt
  have hB := hr.ge
  have hr0 := hr
  go_enter Try.func79, Try.ntmps79
  go_wp2_with fail
  go_at_call 96
  refine (someStock_c (show Rdr _ B g _ by repeat' (first | with_reducible exact hr0 | with_reducible apply Rdr.alloc | with_reducible apply Rdr.drew1 | with_reducible apply Rdr.drew | (apply Rdr.setO (ha := by first | omega | (simp; omega)) (hB := by first | omega | (simp; omega))))) (by omega)).mono ?_
  rintro e w1 ⟨h, n, c, ps, rfl, ho, hfn, hn, hr1, hg1⟩
  obtain ⟨hc1, hf1, hz1⟩ := gcell hg1 hH
  (try simp at hz1)
  (try (have ne1_0_0 : ¬ (w1.heap.size = w.heap.size) := by omega)); (try (have nf1_0_0 : ¬ (w.heap.size = w1.heap.size) := by omega))
  (try (have ne1_0_1 : ¬ (w1.heap.size = w.heap.size + 1) := by omega)); (try (have nf1_0_1 : ¬ (w.heap.size + 1 = w1.heap.size) := by omega))
  (try (have y1 : w.heap.size ≤ w1.heap.size := by omega))
  (try (have z1_0_0 : w.heap.size < w1.heap.size := by omega))
  (try (have z1_0_1 : w.heap.size + 1 < w1.heap.size := by omega))
  (try (have z1_0_2 : w.heap.size + 1 + 1 < w1.heap.size := by omega))
  have hhw := ho.ge
  clear hc1 hf1
  by_cases h0 : 0 < n
  · have i1 : (0 : Int) < (n : Int) := by omega
    go_wp2_with fail
    go_at_call 97
    refine (pick_c (show Rdr _ B g _ by repeat' (first | with_reducible exact hr1 | with_reducible apply Rdr.alloc | with_reducible apply Rdr.drew1 | with_reducible apply Rdr.drew | (apply Rdr.setO (ha := by first | omega | (simp; omega)) (hB := by first | omega | (simp; omega))))) (by omega) _).mono ?_
    rintro e w2 ⟨x2, rfl, ⟨p2, q2⟩, hr2, hg2⟩
    replace q2 := q2 (by omega)
    obtain ⟨hc2, hf2, hz2⟩ := gcell hg2 hH
    (try simp at hz2)
    (try (have ne2_0_0 : ¬ (w2.heap.size = w.heap.size) := by omega)); (try (have nf2_0_0 : ¬ (w.heap.size = w2.heap.size) := by omega))
    (try (have ne2_0_1 : ¬ (w2.heap.size = w.heap.size + 1) := by omega)); (try (have nf2_0_1 : ¬ (w.heap.size + 1 = w2.heap.size) := by omega))
    (try (have ne2_1_0 : ¬ (w2.heap.size = w1.heap.size) := by omega)); (try (have nf2_1_0 : ¬ (w1.heap.size = w2.heap.size) := by omega))
    (try (have ne2_1_1 : ¬ (w2.heap.size = w1.heap.size + 1) := by omega)); (try (have nf2_1_1 : ¬ (w1.heap.size + 1 = w2.heap.size) := by omega))
    (try (have y2 : w.heap.size ≤ w2.heap.size := by omega))
    (try (have y2_1 : w1.heap.size ≤ w2.heap.size := by omega))
    (try (have z2_0_0 : w.heap.size < w2.heap.size := by omega))
    (try (have z2_0_1 : w.heap.size + 1 < w2.heap.size := by omega))
    (try (have z2_0_2 : w.heap.size + 1 + 1 < w2.heap.size := by omega))
    (try (have z2_1_0 : w1.heap.size < w2.heap.size := by omega))
    (try (have z2_1_1 : w1.heap.size + 1 < w2.heap.size := by omega))
    have ho2 := ho.other hg2 (by omega)
    have hfn2 := hfn.low hg2 (by omega)
    have hgb2 : w.grownBy w2 (some g) := gb_trans hg1 hg2
    clear hc2 hf2
    by_cases t0 : x2 = 0
    · subst t0
      go_wp2_with fail
      go_at_call 97
      refine (pick_c (show Rdr _ B g _ by repeat' (first | with_reducible exact hr2 | with_reducible apply Rdr.alloc | with_reducible apply Rdr.drew1 | with_reducible apply Rdr.drew | (apply Rdr.setO (ha := by first | omega | (simp; omega)) (hB := by first | omega | (simp; omega))))) (by omega) _).mono ?_
      rintro e w3 ⟨x3, rfl, ⟨p3, q3⟩, hr3, hg3⟩
      replace q3 := q3 (by omega)
      obtain ⟨hc3, hf3, hz3⟩ := gcell hg3 hH
      (try simp at hz3)
      (try (have ne3_0_0 : ¬ (w3.heap.size = w.heap.size) := by omega)); (try (have nf3_0_0 : ¬ (w.heap.size = w3.heap.size) := by omega))
      (try (have ne3_0_1 : ¬ (w3.heap.size = w.heap.size + 1) := by omega)); (try (have nf3_0_1 : ¬ (w.heap.size + 1 = w3.heap.size) := by omega))
      (try (have ne3_1_0 : ¬ (w3.heap.size = w1.heap.size) := by omega)); (try (have nf3_1_0 : ¬ (w1.heap.size = w3.heap.size) := by omega))
      (try (have ne3_1_1 : ¬ (w3.heap.size = w1.heap.size + 1) := by omega)); (try (have nf3_1_1 : ¬ (w1.heap.size + 1 = w3.heap.size) := by omega))
      (try (have ne3_2_0 : ¬ (w3.heap.size = w2.heap.size) := by omega)); (try (have nf3_2_0 : ¬ (w2.heap.size = w3.heap.size) := by omega))
      (try (have ne3_2_1 : ¬ (w3.heap.size = w2.heap.size + 1) := by omega)); (try (have nf3_2_1 : ¬ (w2.heap.size + 1 = w3.heap.size) := by omega))
      (try (have y3 : w.heap.size ≤ w3.heap.size := by omega))
      (try (have y3_1 : w1.heap.size ≤ w3.heap.size := by omega))
      (try (have y3_2 : w2.heap.size ≤ w3.heap.size := by omega))
      (try (have z3_0_0 : w.heap.size < w3.heap.size := by omega))
      (try (have z3_0_1 : w.heap.size + 1 < w3.heap.size := by omega))
      (try (have z3_0_2 : w.heap.size + 1 + 1 < w3.heap.size := by omega))
      (try (have z3_1_0 : w1.heap.size < w3.heap.size := by omega))
      (try (have z3_1_1 : w1.heap.size + 1 < w3.heap.size := by omega))
      (try (have z3_2_0 : w2.heap.size < w3.heap.size := by omega))
      (try (have z3_2_1 : w2.heap.size + 1 < w3.heap.size := by omega))
      have ho3 := ho2.other hg3 (by omega)
      have hfn3 := hfn2.low hg3 (by omega)
      have hgb3 : w.grownBy w3 (some g) := gb_trans hgb2 hg3
      obtain ⟨q, rfl⟩ : ∃ q : Nat, x3 = q := ⟨x3.toNat, by omega⟩
      have hq : q < n := by omega
      have u1 : (0 : Int) ≤ (q : Int) := by omega
      have u2 : (q : Int) < (n : Int) := by omega
      clear hc3 hf3
      go_wp2_with fail
      go_at_call 98
      refine (one_any (show Rdr _ B g _ by repeat' (first | with_reducible exact hr3 | with_reducible apply Rdr.alloc | with_reducible apply Rdr.drew1 | with_reducible apply Rdr.drew | (apply Rdr.setO (ha := by first | omega | (simp; omega)) (hB := by first | omega | (simp; omega))))) (by omega) (by exact lit_any _ _ _ _ (by first | rfl | simp) rfl (by simp)) (by omega) (by first | omega | (simp; omega))).mono ?_
      rintro e w4 ⟨x4, rfl, p4, hr4, hg4⟩
      clear p4
      obtain ⟨hc4, hf4, hz4⟩ := gcell hg4 hH
      (try simp at hz4)
      (try (have ne4_0_0 : ¬ (w4.heap.size = w.heap.size) := by omega)); (try (have nf4_0_0 : ¬ (w.heap.size = w4.heap.size) := by omega))
      (try (have ne4_0_1 : ¬ (w4.heap.size = w.heap.size + 1) := by omega)); (try (have nf4_0_1 : ¬ (w.heap.size + 1 = w4.heap.size) := by omega))
      (try (have ne4_1_0 : ¬ (w4.heap.size = w1.heap.size) := by omega)); (try (have nf4_1_0 : ¬ (w1.heap.size = w4.heap.size) := by omega))
      (try (have ne4_1_1 : ¬ (w4.heap.size = w1.heap.size + 1) := by omega)); (try (have nf4_1_1 : ¬ (w1.heap.size + 1 = w4.heap.size) := by omega))
      (try (have ne4_2_0 : ¬ (w4.heap.size = w2.heap.size) := by omega)); (try (have nf4_2_0 : ¬ (w2.heap.size = w4.heap.size) := by omega))
      (try (have ne4_2_1 : ¬ (w4.heap.size = w2.heap.size + 1) := by omega)); (try (have nf4_2_1 : ¬ (w2.heap.size + 1 = w4.heap.size) := by omega))
      (try (have ne4_3_0 : ¬ (w4.heap.size = w3.heap.size) := by omega)); (try (have nf4_3_0 : ¬ (w3.heap.size = w4.heap.size) := by omega))
      (try (have ne4_3_1 : ¬ (w4.heap.size = w3.heap.size + 1) := by omega)); (try (have nf4_3_1 : ¬ (w3.heap.size + 1 = w4.heap.size) := by omega))
      (try (have y4 : w.heap.size ≤ w4.heap.size := by omega))
      (try (have y4_1 : w1.heap.size ≤ w4.heap.size := by omega))
      (try (have y4_2 : w2.heap.size ≤ w4.heap.size := by omega))
      (try (have y4_3 : w3.heap.size ≤ w4.heap.size := by omega))
      (try (have z4_0_0 : w.heap.size < w4.heap.size := by omega))
      (try (have z4_0_1 : w.heap.size + 1 < w4.heap.size := by omega))
      (try (have z4_0_2 : w.heap.size + 1 + 1 < w4.heap.size := by omega))
      (try (have z4_1_0 : w1.heap.size < w4.heap.size := by omega))
      (try (have z4_1_1 : w1.heap.size + 1 < w4.heap.size := by omega))
      (try (have z4_2_0 : w2.heap.size < w4.heap.size := by omega))
      (try (have z4_2_1 : w2.heap.size + 1 < w4.heap.size := by omega))
      (try (have z4_3_0 : w3.heap.size < w4.heap.size := by omega))
      (try (have z4_3_1 : w3.heap.size + 1 < w4.heap.size := by omega))
      have ho4 := (ho3.below ((Below.refl _ _).alloc (Nat.le_refl _) _)).other hg4 (by omega)
      have hfn4 := (hfn3.below ((Below.refl _ _).alloc (Nat.le_refl _) _)).low hg4 (by omega)
      have hgb4 : w.grownBy w4 (some g) := gb_trans (gb_alloc hgb3 _) hg4
      obtain ⟨f1, -, -, -⟩ := op_cells ho4 hq
      have f2 := ho4.frozen (q * 4)
      obtain ⟨ps', ho5, hfn5⟩ := op_setL ho4 hfn4 hq x4
      have hr5 : Rdr (w4.setCell ⟨h, q * 4, none⟩ (.int .i64 x4)) B g (m + 340) := (Rdr.setO hr4 (by omega) (by omega) _).mono (by omega)
      clear hc4 hf4
      go_wp2_with fail
      go_ret
      exact ⟨h, n, c, ps', rfl, ho5, hfn5, hn, hr5, gb_set hgb4 (by omega) _⟩
    · have t0' : (x2 == 0) = false := by simpa using t0
      go_wp2_with fail
      go_ret
      exact ⟨h, n, c, ps, rfl, ho2, hfn2, hn, hr2.mono (by omega), hgb2⟩
  · obtain rfl : n = 0 := by omega
    go_wp2_with fail
    go_ret
    exact ⟨h, 0, c, ps, rfl, ho, hfn, hn, hr1.mono (by omega), hg1⟩
/-- a stock is drawn -/
def DrS (k : Nat) (w : World) : Ending → World → Prop := fun e w' => ∃ h n c ps, e = .returned (.slice (some ⟨h, 0, none⟩) n c) ∧ OP w' w.heap.size h n c ps ∧ FA w' w.heap.size ps ∧ n ≤ k ∧ Below w.heap.size w w'
set_option maxHeartbeats 1000000 in
theorem DrawValidStock_c {w : World} {v : Value} (hv : BSl w v) : Calls Try.prog 45 #[v] w (DrS 6 w) := by
  obtain ⟨B, hB0, hv⟩ : ∃ B, B ≤ w.heap.size ∧ BSlB w B v := ⟨w.heap.size, Nat.le_refl _, hv⟩
  have hv' := hv
  obtain ⟨p, n, cap, rfl, _⟩ := hv'
  go_enter Try.func45, Try.ntmps45
  go_wp2_with fail
  go_at_call 80
  refine (newReader_c _ _ B (hv.below (by (repeat' (first | exact Below.refl _ _ | refine Below.alloc ?_ ?_ _ | refine Below.setCell ?_ ?_ _ | refine Below.drew ?_ | refine below_drewN ?_ _ | refine Below.trans ?_ (Below.mono (by assumption) ?_))) <;> (try first | omega | (simp; done) | (simp at *; omega))) hB0) (by first | omega | (simp; omega))).mono ?_
  rintro e w1 ⟨g, rfl, hr1, hL, hb1⟩
  have hH := hr1.lt
  have hB := hr1.ge
  obtain ⟨hc1, hf1, -, hz1⟩ := bcell hb1
  (try simp at hz1)
  (try simp at hL)
  have y1 : w.heap.size ≤ w1.heap.size := by omega
  (try (have z1_0 : w.heap.size < w1.heap.size := by omega))
  (try (have z1_1 : w.heap.size + 1 < w1.heap.size := by omega))
  go_wp2_with fail
  go_at_call 79
  refine (anyStock_c (show Rdr _ B g _ by repeat' (first | with_reducible exact hr1 | with_reducible apply Rdr.alloc | with_reducible apply Rdr.drew1 | with_reducible apply Rdr.drew | (apply Rdr.setO (ha := by first | omega | (simp; omega)) (hB := by first | omega | (simp; omega))))) (by omega)).mono ?_
  rintro e w2 ⟨h, k, c, ps, rfl, ho, hfn, hk, hr2, hg2⟩
  obtain ⟨hc2, hf2, hz2⟩ := gcell hg2 hH
  (try simp at hz2)
  obtain ⟨hd2, he2⟩ := gcellL hg2 hL
  (try (have ne2_0_0 : ¬ (w2.heap.size = w.heap.size) := by omega)); (try (have nf2_0_0 : ¬ (w.heap.size = w2.heap.size) := by omega))
  (try (have ne2_0_1 : ¬ (w2.heap.size = w.heap.size + 1) := by omega)); (try (have nf2_0_1 : ¬ (w.heap.size + 1 = w2.heap.size) := by omega))
  (try (have ne2_1_0 : ¬ (w2.heap.size = w1.heap.size) := by omega)); (try (have nf2_1_0 : ¬ (w1.heap.size = w2.heap.size) := by omega))
  (try (have ne2_1_1 : ¬ (w2.heap.size = w1.heap.size + 1) := by omega)); (try (have nf2_1_1 : ¬ (w1.heap.size + 1 = w2.heap.size) := by omega))
  (try (have y2 : w.heap.size ≤ w2.heap.size := by omega))
  (try (have y2_1 : w1.heap.size ≤ w2.heap.size := by omega))
  (try (have z2_0_0 : w.heap.size < w2.heap.size := by omega))
  (try (have z2_0_1 : w.heap.size + 1 < w2.heap.size := by omega))
  (try (have z2_0_2 : w.heap.size + 1 + 1 < w2.heap.size := by omega))
  (try (have z2_1_0 : w1.heap.size < w2.heap.size := by omega))
  (try (have z2_1_1 : w1.heap.size + 1 < w2.heap.size := by omega))
  go_wp2_with fail
  go_ret
  exact ⟨h, k, c, ps, rfl, ho.le (by omega), (hfn.le (by omega)).fa, hk, (by repeat' (first | with_reducible exact Below.refl _ _ | with_reducible refine Below.alloc ?_ (by first | omega | (simp; done) | (simp; omega)) _ | with_reducible refine Below.drew ?_ | with_reducible refine below_drewN ?_ _ | with_reducible refine Below.setCell ?_ (by first | omega | (simp; done) | (simp; omega)) _ | with_reducible refine Below.grown ?_ (by assumption) (by first | omega | (simp; done) | (simp; omega)) (by intro k hk; cases hk; omega) | with_reducible refine Below.trans ?_ (Below.mono (by assumption) (by first | omega | (simp; done) | (simp; omega)))))⟩
end Go.Proofs.Ytjanjaabcinkiaa
