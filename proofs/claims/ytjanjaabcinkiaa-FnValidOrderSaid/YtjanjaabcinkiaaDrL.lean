/- What the generators of spec draw: orders; no statement is proved here. -/
import Derived.Test.YtjanjaabcinkiaaLns
namespace Go.Proofs.Ytjanjaabcinkiaa
open Go.ChangeShapes Go.WideShapes Go.ChangeAt Go.RowKit Go.Deep
set_option linter.unusedVariables false
set_option linter.unusedSimpArgs false

/-- an order is drawn by a reader -/
def PkO (k B g m : Nat) (w : World) : Ending → World → Prop := fun e w' => ∃ h n c ls, e = .returned (.slice (some ⟨h, 0, none⟩) n c) ∧ OL w' w.heap.size h n c ls ∧ n ≤ k ∧ Rdr w' B g m ∧ w.grownBy w' (some g)
set_option maxRecDepth 100000 in
set_option maxHeartbeats 1000000 in
theorem someOrder_c {w : World} {B g m : Nat} (hr : Rdr w B g m) (hm : m ≤ 800000) :
    Calls Try.prog 100 #[.pointer (some ⟨g, 0, none⟩)] w (PkO 4 B g (m + 50) w) := by
  have hH := hr.lt
  have hB := hr.ge
  have hB0 : B ≤ w.heap.size := by omega
  have hr0 := hr
  have ho0 : OL (w.alloc (.cells #[] 91)) w.heap.size w.heap.size 0 0 [] := OG.empty lnK_len (by omega) (by omega) rfl
  go_enter Try.func100, Try.ntmps100
  go_wp2_with fail
  go_at_call 98
  refine (one_c (zs := [2, 3, 1, 4, 0]) (show Rdr _ B g _ by repeat' (first | with_reducible exact hr0 | with_reducible apply Rdr.alloc | with_reducible apply Rdr.drew1 | with_reducible apply Rdr.drew | (apply Rdr.setO (ha := by first | omega | (simp; omega)) (hB := by first | omega | (simp; omega))))) (by omega) (by exact lit_at _ [2, 3, 1, 4, 0] 5 _ rfl (by omega) (by first | rfl | simp)) (by omega) (by first | omega | (simp; omega))).mono ?_
  rintro e w1 ⟨x1, rfl, p1, hr1, hg1⟩
  have q1 : 0 ≤ x1 ∧ x1 ≤ 4 := by simp at p1; omega
  clear p1
  obtain ⟨q1a, q1b⟩ := q1
  obtain ⟨hc1, hf1, hz1⟩ := gcell hg1 hH
  (try simp at hz1)
  (try (have ne1_0_0 : ¬ (w1.heap.size = w.heap.size) := by omega)); (try (have nf1_0_0 : ¬ (w.heap.size = w1.heap.size) := by omega))
  (try (have ne1_0_1 : ¬ (w1.heap.size = w.heap.size + 1) := by omega)); (try (have nf1_0_1 : ¬ (w.heap.size + 1 = w1.heap.size) := by omega))
  (try (have y1 : w.heap.size ≤ w1.heap.size := by omega))
  (try (have z1_0_0 : w.heap.size < w1.heap.size := by omega))
  (try (have z1_0_1 : w.heap.size + 1 < w1.heap.size := by omega))
  (try (have z1_0_2 : w.heap.size + 1 + 1 < w1.heap.size := by omega))
  go_wp2_with fail
  have ho1 := (ho0.below ((Below.refl _ _).alloc (Nat.le_refl _) _)).other hg1 (by omega)
  have hgb1 : w.grownBy w1 (some g) := (by repeat' (first | with_reducible exact World.grownBy.refl _ _ | with_reducible refine gb_alloc ?_ _ | with_reducible refine gb_set ?_ (by first | omega | (simp; omega)) _ | with_reducible refine gb_drewN ?_ _ | with_reducible refine gb_drew1 ?_ | with_reducible refine gb_trans ?_ (by assumption)))
  obtain ⟨x, rfl⟩ : ∃ x : Nat, x1 = x := ⟨x1.toNat, by omega⟩
  clear hc1 hf1
  go_loopw [3, 4] (fun o k wr => ∃ j n h c m' : Nat, ∃ ls, k = .int .i64 j ∧ o = .slice (some ⟨h, 0, none⟩) n c ∧ n + j ≤ 4 ∧ m' + 10 * j ≤ m + 45 ∧ OL wr w.heap.size h n c ls ∧ Rdr wr B g m' ∧ w.grownBy wr (some g)) (fun _ k _ => (intOf k).toNat)
  case atStart => exact ⟨x, 0, w.heap.size, 0, m + 1, [], rfl, rfl, by omega, by omega, ho1, hr1, hgb1⟩
  case round =>
    obtain ⟨j, n, h, c, m', ls, rfl, rfl, hnj, hmj, ho, hr2, hgb⟩ := hrel
    clear ho0 ho1 hr1 hg1 hgb1
    have hr1 := hr2
    have hhw := ho.ge
    have hsz := hgb.size
    by_cases hj : 0 < j
    · obtain ⟨i, rfl⟩ : ∃ i, j = i + 1 := ⟨j - 1, by omega⟩
      have i1 : (0 : Int) < ((i + 1 : Nat) : Int) := by omega
      go_wp2_with fail
      go_at_call 104
      refine (somePane_c (show Rdr _ B g _ by repeat' (first | with_reducible exact hr1 | with_reducible apply Rdr.alloc | with_reducible apply Rdr.drew1 | with_reducible apply Rdr.drew | (apply Rdr.setO (ha := by first | omega | (simp; omega)) (hB := by first | omega | (simp; omega))))) (by omega)).mono ?_
      rintro e w2 ⟨b2, h2, t2, k2, rfl, q2, hr2, hg2⟩
      obtain ⟨hc2, hf2, hz2⟩ := gcell hg2 hH
      (try simp at hz2)
      (try (have ne2_0_0 : ¬ (w2.heap.size = w.heap.size) := by omega)); (try (have nf2_0_0 : ¬ (w.heap.size = w2.heap.size) := by omega))
      (try (have ne2_0_1 : ¬ (w2.heap.size = w.heap.size + 1) := by omega)); (try (have nf2_0_1 : ¬ (w.heap.size + 1 = w2.heap.size) := by omega))
      (try (have ne2_1_0 : ¬ (w2.heap.size = w1.heap.size) := by omega)); (try (have nf2_1_0 : ¬ (w1.heap.size = w2.heap.size) := by omega))
      (try (have ne2_1_1 : ¬ (w2.heap.size = w1.heap.size + 1) := by omega)); (try (have nf2_1_1 : ¬ (w1.heap.size + 1 = w2.heap.size) := by omega))
      (try (have y2 : w.heap.size ≤ w2.heap.size := by omega))
      (try (have y2_1 : w1.heap.size ≤ w2.heap.size := by omega))
      (try (have z2_0_0 : w.heap.size < w2.heap.size := by omega))
      (try (have z2_0_1 : w.heap.size + 1 < w2.heap.size := by omega))
      (try (have z2_0_2 : w.heap.size + 1 + 1 < w2.heap.size := by omega))
      (try (have z2_1_0 : w1.heap.size < w2.heap.size := by omega))
      (try (have z2_1_1 : w1.heap.size + 1 < w2.heap.size := by omega))
      have ho2 := ho.other hg2 (by omega)
      clear hc2 hf2 q2
      go_wp2_with fail
      go_at_call 97
      refine (pick_c (show Rdr _ B g _ by repeat' (first | with_reducible exact hr2 | with_reducible apply Rdr.alloc | with_reducible apply Rdr.drew1 | with_reducible apply Rdr.drew | (apply Rdr.setO (ha := by first | omega | (simp; omega)) (hB := by first | omega | (simp; omega))))) (by omega) _).mono ?_
      rintro e w3 ⟨x3, rfl, ⟨p3, q3⟩, hr3, hg3⟩
      replace q3 := q3 (by omega)
      obtain ⟨hc3, hf3, hz3⟩ := gcell hg3 hH
      (try simp at hz3)
      (try (have ne3_0_0 : ¬ (w3.heap.size = w.heap.size) := by omega)); (try (have nf3_0_0 : ¬ (w.heap.size = w3.heap.size) := by omega))
      (try (have ne3_0_1 : ¬ (w3.heap.size = w.heap.size + 1) := by omega)); (try (have nf3_0_1 : ¬ (w.heap.size + 1 = w3.heap.size) := by omega))
      (try (have ne3_1_0 : ¬ (w3.heap.size = w1.heap.size) := by omega)); (try (have nf3_1_0 : ¬ (w1.heap.size = w3.heap.size) := by omega))
      (try (have ne3_1_1 : ¬ (w3.heap.size = w1.heap.size + 1) := by omega)); (try (have nf3_1_1 : ¬ (w1.heap.size + 1 = w3.heap.size) := by omega))
      (try (have ne3_2_0 : ¬ (w3.heap.size = w2.heap.size) := by omega)); (try (have nf3_2_0 : ¬ (w2.heap.size = w3.heap.size) := by omega))
      (try (have ne3_2_1 : ¬ (w3.heap.size = w2.heap.size + 1) := by omega)); (try (have nf3_2_1 : ¬ (w2.heap.size + 1 = w3.heap.size) := by omega))
      (try (have y3 : w.heap.size ≤ w3.heap.size := by omega))
      (try (have y3_1 : w1.heap.size ≤ w3.heap.size := by omega))
      (try (have y3_2 : w2.heap.size ≤ w3.heap.size := by omega))
      (try (have z3_0_0 : w.heap.size < w3.heap.size := by omega))
      (try (have z3_0_1 : w.heap.size + 1 < w3.heap.size := by omega))
      (try (have z3_0_2 : w.heap.size + 1 + 1 < w3.heap.size := by omega))
      (try (have z3_1_0 : w1.heap.size < w3.heap.size := by omega))
      (try (have z3_1_1 : w1.heap.size + 1 < w3.heap.size := by omega))
      (try (have z3_2_0 : w2.heap.size < w3.heap.size := by omega))
      (try (have z3_2_1 : w2.heap.size + 1 < w3.heap.size := by omega))
      have ho3 := ho2.other hg3 (by omega)
      have hgb3 : w.grownBy w3 (some g) := gb_trans (gb_trans hgb hg2) hg3
      have hz3' := hgb3.size
      have hr3' := hr3
      clear hc3 hf3 ho ho2
      go_wp2_with fail
      go_at_call 103
      refine (addPanes_c ho3 (by omega) _ _ _ _ _).mono ?_
      rintro e w4 ⟨h4, n4, c4, ls4, rfl, ho4, hn4, hb4⟩
      have hr4 := hr3'.below hb4
      have hgb4 := gbB hgb3 hb4
      have ho4' := ho4.le (B' := w.heap.size) (by omega)
      go_wp2_with fail
      go_roundw
      case rel => exact ⟨i, n4, h4, c4, _, ls4, by go_num, rfl, by omega, by omega, ho4', hr4, hgb4⟩
      case measure => simp [intOf]
    · obtain rfl : j = 0 := by omega
      go_wp2_with fail
      go_ret
      exact ⟨h, n, c, ls, rfl, ho, by omega, hr2.mono (by omega), hgb⟩
theorem three_ints (x y z : Int) : ∀ v ∈ (#[Value.int .i64 x, Value.int .i64 y, Value.int .i64 z] : Array Value).toList, ∃ x : Int, v = .int .i64 x := by intro v hv; simp at hv; rcases hv with rfl | rfl | rfl <;> exact ⟨_, rfl⟩
theorem ol_setP {w : World} {B g n c : Nat} {ls : List Ln} (h : OL w B g n c ls) {k : Nat} (hk : k < n) (x y : Int) (t : Bool) (z : Int) : ∃ ls', OL ((((w.setCell ⟨g, k * 5, none⟩ (.int .i64 x)).setCell ⟨g, k * 5 + 1, none⟩ (.int .i64 y)).setCell ⟨g, k * 5 + 2, none⟩ (.bool t)).setCell ⟨g, k * 5 + 3, none⟩ (.int .i64 z)) B g n c ls' := by
  have hk' : k < ls.length := h.len ▸ hk
  have h1 := h.set hk (j := 0) (by omega) (.int .i64 x) ⟨x, ls[k].h, ls[k].t, ls[k].k, ls[k].c⟩ rfl
  have h2 := h1.set hk (j := 1) (by omega) (.int .i64 y) ⟨x, y, ls[k].t, ls[k].k, ls[k].c⟩ (by rw [List.getElem_set_self]; rfl)
  have h3 := h2.set hk (j := 2) (by omega) (.bool t) ⟨x, y, t, ls[k].k, ls[k].c⟩ (by rw [List.getElem_set_self]; rfl)
  have h4 := h3.set hk (j := 3) (by omega) (.int .i64 z) ⟨x, y, t, z, ls[k].c⟩ (by rw [List.getElem_set_self]; rfl)
  exact ⟨_, h4⟩
set_option maxRecDepth 100000 in
set_option maxHeartbeats 2000000 in
theorem anyOrder_c {w : World} {B g m : Nat} (hr : Rdr w B g m) (hm : m ≤ 700000) :
    Calls Try.prog 84 #[.pointer (some ⟨g, 0, none⟩)] w (PkO 5 B g (m + 80) w) := by
  obtain ⟨i0, hi, iz0, iz1, iz2⟩ := info_parts infoLine
  have hH := hr.lt
  have hB := hr.ge
  have hr0 := hr
  go_enter Try.func84, Try.ntmps84
  go_wp2_with fail
  go_at_call 100
  refine (someOrder_c (show Rdr _ B g _ by repeat' (first | with_reducible exact hr0 | with_reducible apply Rdr.alloc | with_reducible apply Rdr.drew1 | with_reducible apply Rdr.drew | (apply Rdr.setO (ha := by first | omega | (simp; omega)) (hB := by first | omega | (simp; omega))))) (by omega)).mono ?_
  rintro e w1 ⟨h, n, c, ls, rfl, ho, hn, hr1, hg1⟩
  obtain ⟨hc1, hf1, hz1⟩ := gcell hg1 hH
  (try simp at hz1)
  (try (have ne1_0_0 : ¬ (w1.heap.size = w.heap.size) := by omega)); (try (have nf1_0_0 : ¬ (w.heap.size = w1.heap.size) := by omega))
  (try (have ne1_0_1 : ¬ (w1.heap.size = w.heap.size + 1) := by omega)); (try (have nf1_0_1 : ¬ (w.heap.size + 1 = w1.heap.size) := by omega))
  (try (have y1 : w.heap.size ≤ w1.heap.size := by omega))
  (try (have z1_0_0 : w.heap.size < w1.heap.size := by omega))
  (try (have z1_0_1 : w.heap.size + 1 < w1.heap.size := by omega))
  (try (have z1_0_2 : w.heap.size + 1 + 1 < w1.heap.size := by omega))
  have hhw := ho.ge
  clear hc1 hf1
  by_cases h0 : 0 < n
  · have i1 : (0 : Int) < (n : Int) := by omega
    go_wp2_with fail
    go_at_call 97
    refine (pick_c (show Rdr _ B g _ by repeat' (first | with_reducible exact hr1 | with_reducible apply Rdr.alloc | with_reducible apply Rdr.drew1 | with_reducible apply Rdr.drew | (apply Rdr.setO (ha := by first | omega | (simp; omega)) (hB := by first | omega | (simp; omega))))) (by omega) _).mono ?_
    rintro e w2 ⟨x2, rfl, ⟨p2, q2⟩, hr2, hg2⟩
    replace q2 := q2 (by omega)
    obtain ⟨hc2, hf2, hz2⟩ := gcell hg2 hH
    (try simp at hz2)
    (try (have ne2_0_0 : ¬ (w2.heap.size = w.heap.size) := by omega)); (try (have nf2_0_0 : ¬ (w.heap.size = w2.heap.size) := by omega))
    (try (have ne2_0_1 : ¬ (w2.heap.size = w.heap.size + 1) := by omega)); (try (have nf2_0_1 : ¬ (w.heap.size + 1 = w2.heap.size) := by omega))
    (try (have ne2_1_0 : ¬ (w2.heap.size = w1.heap.size) := by omega)); (try (have nf2_1_0 : ¬ (w1.heap.size = w2.heap.size) := by omega))
    (try (have ne2_1_1 : ¬ (w2.heap.size = w1.heap.size + 1) := by omega)); (try (have nf2_1_1 : ¬ (w1.heap.size + 1 = w2.heap.size) := by omega))
    (try (have y2 : w.heap.size ≤ w2.heap.size := by omega))
    (try (have y2_1 : w1.heap.size ≤ w2.heap.size := by omega))
    (try (have z2_0_0 : w.heap.size < w2.heap.size := by omega))
    (try (have z2_0_1 : w.heap.size + 1 < w2.heap.size := by omega))
    (try (have z2_0_2 : w.heap.size + 1 + 1 < w2.heap.size := by omega))
    (try (have z2_1_0 : w1.heap.size < w2.heap.size := by omega))
    (try (have z2_1_1 : w1.heap.size + 1 < w2.heap.size := by omega))
    have ho2 := ho.other hg2 (by omega)
    clear hc2 hf2
    obtain ⟨q, rfl⟩ : ∃ q : Nat, x2 = q := ⟨x2.toNat, by omega⟩
    have hq : q < n := by omega
    go_wp2_with fail
    go_at_call 97
    refine (pick_c (show Rdr _ B g _ by repeat' (first | with_reducible exact hr2 | with_reducible apply Rdr.alloc | with_reducible apply Rdr.drew1 | with_reducible apply Rdr.drew | (apply Rdr.setO (ha := by first | omega | (simp; omega)) (hB := by first | omega | (simp; omega))))) (by omega) _).mono ?_
    rintro e w3 ⟨x3, rfl, ⟨p3, q3⟩, hr3, hg3⟩
    replace q3 := q3 (by omega)
    obtain ⟨hc3, hf3, hz3⟩ := gcell hg3 hH
    (try simp at hz3)
    (try (have ne3_0_0 : ¬ (w3.heap.size = w.heap.size) := by omega)); (try (have nf3_0_0 : ¬ (w.heap.size = w3.heap.size) := by omega))
    (try (have ne3_0_1 : ¬ (w3.heap.size = w.heap.size + 1) := by omega)); (try (have nf3_0_1 : ¬ (w.heap.size + 1 = w3.heap.size) := by omega))
    (try (have ne3_1_0 : ¬ (w3.heap.size = w1.heap.size) := by omega)); (try (have nf3_1_0 : ¬ (w1.heap.size = w3.heap.size) := by omega))
    (try (have ne3_1_1 : ¬ (w3.heap.size = w1.heap.size + 1) := by omega)); (try (have nf3_1_1 : ¬ (w1.heap.size + 1 = w3.heap.size) := by omega))
    (try (have ne3_2_0 : ¬ (w3.heap.size = w2.heap.size) := by omega)); (try (have nf3_2_0 : ¬ (w2.heap.size = w3.heap.size) := by omega))
    (try (have ne3_2_1 : ¬ (w3.heap.size = w2.heap.size + 1) := by omega)); (try (have nf3_2_1 : ¬ (w2.heap.size + 1 = w3.heap.size) := by omega))
    (try (have y3 : w.heap.size ≤ w3.heap.size := by omega))
    (try (have y3_1 : w1.heap.size ≤ w3.heap.size := by omega))
    (try (have y3_2 : w2.heap.size ≤ w3.heap.size := by omega))
    (try (have z3_0_0 : w.heap.size < w3.heap.size := by omega))
    (try (have z3_0_1 : w.heap.size + 1 < w3.heap.size := by omega))
    (try (have z3_0_2 : w.heap.size + 1 + 1 < w3.heap.size := by omega))
    (try (have z3_1_0 : w1.heap.size < w3.heap.size := by omega))
    (try (have z3_1_1 : w1.heap.size + 1 < w3.heap.size := by omega))
    (try (have z3_2_0 : w2.heap.size < w3.heap.size := by omega))
    (try (have z3_2_1 : w2.heap.size + 1 < w3.heap.size := by omega))
    have ho3 := ho2.other hg3 (by omega)
    clear hc3 hf3
    have hgb3 : w.grownBy w3 (some g) := gb_trans (gb_trans hg1 hg2) hg3
    have u1 : (0 : Int) ≤ (q : Int) := by omega
    have u2 : (q : Int) < (n : Int) := by omega
    by_cases t0 : x3 = 0
    · subst t0
      go_wp2_with fail
      go_at_call 98
      refine (one_any (show Rdr _ B g _ by repeat' (first | with_reducible exact hr3 | with_reducible apply Rdr.alloc | with_reducible apply Rdr.drew1 | with_reducible apply Rdr.drew | (apply Rdr.setO (ha := by first | omega | (simp; omega)) (hB := by first | omega | (simp; omega))))) (by omega) (by exact lit_any _ _ _ _ (by first | rfl | simp) rfl (by simp)) (by omega) (by first | omega | (simp; omega))).mono ?_
      rintro e w4 ⟨x4, rfl, p4, hr4, hg4⟩
      clear p4
      obtain ⟨hc4, hf4, hz4⟩ := gcell hg4 hH
      (try simp at hz4)
      (try (have ne4_0_0 : ¬ (w4.heap.size = w.heap.size) := by omega)); (try (have nf4_0_0 : ¬ (w.heap.size = w4.heap.size) := by omega))
      (try (have ne4_0_1 : ¬ (w4.heap.size = w.heap.size + 1) := by omega)); (try (have nf4_0_1 : ¬ (w.heap.size + 1 = w4.heap.size) := by omega))
      (try (have ne4_1_0 : ¬ (w4.heap.size = w1.heap.size) := by omega)); (try (have nf4_1_0 : ¬ (w1.heap.size = w4.heap.size) := by omega))
      (try (have ne4_1_1 : ¬ (w4.heap.size = w1.heap.size + 1) := by omega)); (try (have nf4_1_1 : ¬ (w1.heap.size + 1 = w4.heap.size) := by omega))
      (try (have ne4_2_0 : ¬ (w4.heap.size = w2.heap.size) := by omega)); (try (have nf4_2_0 : ¬ (w2.heap.size = w4.heap.size) := by omega))
      (try (have ne4_2_1 : ¬ (w4.heap.size = w2.heap.size + 1) := by omega)); (try (have nf4_2_1 : ¬ (w2.heap.size + 1 = w4.heap.size) := by omega))
      (try (have ne4_3_0 : ¬ (w4.heap.size = w3.heap.size) := by omega)); (try (have nf4_3_0 : ¬ (w3.heap.size = w4.heap.size) := by omega))
      (try (have ne4_3_1 : ¬ (w4.heap.size = w3.heap.size + 1) := by omega)); (try (have nf4_3_1 : ¬ (w3.heap.size + 1 = w4.heap.size) := by omega))
      (try (have y4 : w.heap.size ≤ w4.heap.size := by omega))
      (try (have y4_1 : w1.heap.size ≤ w4.heap.size := by omega))
      (try (have y4_2 : w2.heap.size ≤ w4.heap.size := by omega))
      (try (have y4_3 : w3.heap.size ≤ w4.heap.size := by omega))
      (try (have z4_0_0 : w.heap.size < w4.heap.size := by omega))
      (try (have z4_0_1 : w.heap.size + 1 < w4.heap.size := by omega))
      (try (have z4_0_2 : w.heap.size + 1 + 1 < w4.heap.size := by omega))
      (try (have z4_1_0 : w1.heap.size < w4.heap.size := by omega))
      (try (have z4_1_1 : w1.heap.size + 1 < w4.heap.size := by omega))
      (try (have z4_2_0 : w2.heap.size < w4.heap.size := by omega))
      (try (have z4_2_1 : w2.heap.size + 1 < w4.heap.size := by omega))
      (try (have z4_3_0 : w3.heap.size < w4.heap.size := by omega))
      (try (have z4_3_1 : w3.heap.size + 1 < w4.heap.size := by omega))
      have ho4 := (ho3.below ((Below.refl _ _).alloc (Nat.le_refl _) _)).other hg4 (by omega)
      clear hc4 hf4
      obtain ⟨l, -, -, -, -, -, f1⟩ := ol_cells ho4 hq
      have f2 := ho4.frozen (q * 5 + 4)
      obtain ⟨ls', ho5⟩ := ol_setC ho4 hq x4
      have hr5 : Rdr (w4.setCell ⟨h, q * 5 + 4, none⟩ (.int .i64 x4)) B g (m + 80) := (Rdr.setO hr4 (by omega) (by omega) _).mono (by omega)
      go_wp2_with fail
      go_ret
      exact ⟨h, n, c, _, rfl, ho5, by omega, hr5, (by repeat' (first | with_reducible exact World.grownBy.refl _ _ | with_reducible refine gb_alloc ?_ _ | with_reducible refine gb_set ?_ (by first | omega | (simp; omega)) _ | with_reducible refine gb_drewN ?_ _ | with_reducible refine gb_drew1 ?_ | with_reducible refine gb_trans ?_ (by assumption)))⟩
    · by_cases t1 : x3 = 1
      · subst t1
        obtain ⟨l, -, f0, f1, f2, f3, f4⟩ := ol_cells ho3 hq
        obtain ⟨y0, hy0⟩ : ∃ x, x = l.w := ⟨_, rfl⟩
        obtain ⟨y1, hy1⟩ : ∃ x, x = l.h := ⟨_, rfl⟩
        obtain ⟨y2, hy2⟩ : ∃ x, x = l.t := ⟨_, rfl⟩
        obtain ⟨y3, hy3⟩ : ∃ x, x = l.k := ⟨_, rfl⟩
        obtain ⟨y4, hy4⟩ : ∃ x, x = l.c := ⟨_, rfl⟩
        rw [← hy0] at f0
        rw [← hy1] at f1
        rw [← hy2] at f2
        rw [← hy3] at f3
        rw [← hy4] at f4
        clear hy0 hy1 hy2 hy3 hy4
        have hr3' := hr3
        go_wp2_with (at_builtin; refine wpList_append_own _ rfl _ _ 47 rfl w.heap.size 91 i0 (.agg #[.int .i64 0, .int .i64 0, .bool false, .int .i64 0, .int .i64 0]) 5 40 Try.underlying47 hi iz0 iz1 iz2 rfl (by decide) _ n _ rfl (ho3.alloc _).row ⟨w3.heap.size, 0, none⟩ 1 1 [(.int .i64 y0), (.int .i64 y1), .bool y2, (.int .i64 y3), (.int .i64 y4)] rfl rfl (five_at _ _ _ _ _ _ _ _ (by first | rfl | simp)) (by intro u hu; simp at hu; rcases hu with rfl | rfl | rfl | rfl | rfl <;> rfl) (by unfold maxLen; omega) (by omega) (by first | omega | (simp; done) | (simp; omega)) ?_; intro v2 w4 hown2 hgrow2 hnil2; obtain ⟨g4, c4, rfl, ho4⟩ := ho3.app (ys := [⟨y0, y1, y2, y3, y4⟩]) rfl rfl hown2 hnil2)
        have hgr4 : World.grownBy _ w4 (some h) := hgrow2
        have hr4 : Rdr w4 B g (m + 80) := ((hr3'.alloc _).grown hgr4 (by intro e; injection e with e; omega) (fun r hr => by cases hr; omega)).mono (by omega)
        go_ret
        exact ⟨g4, n + 1, c4, _, rfl, ho4, by omega, hr4, gbO (gb_alloc hgb3 _) hgr4 (by omega)⟩
      · by_cases t2 : x3 = 2
        · subst t2
          go_wp2_with fail
          go_at_call 101
          refine (anyPane_c (show Rdr _ B g _ by repeat' (first | with_reducible exact hr3 | with_reducible apply Rdr.alloc | with_reducible apply Rdr.drew1 | with_reducible apply Rdr.drew | (apply Rdr.setO (ha := by first | omega | (simp; omega)) (hB := by first | omega | (simp; omega))))) (by omega)).mono ?_
          rintro e w4 ⟨b4, h4, t4, k4, rfl, q4, hr4, hg4⟩
          obtain ⟨hc4, hf4, hz4⟩ := gcell hg4 hH
          (try simp at hz4)
          (try (have ne4_0_0 : ¬ (w4.heap.size = w.heap.size) := by omega)); (try (have nf4_0_0 : ¬ (w.heap.size = w4.heap.size) := by omega))
          (try (have ne4_0_1 : ¬ (w4.heap.size = w.heap.size + 1) := by omega)); (try (have nf4_0_1 : ¬ (w.heap.size + 1 = w4.heap.size) := by omega))
          (try (have ne4_1_0 : ¬ (w4.heap.size = w1.heap.size) := by omega)); (try (have nf4_1_0 : ¬ (w1.heap.size = w4.heap.size) := by omega))
          (try (have ne4_1_1 : ¬ (w4.heap.size = w1.heap.size + 1) := by omega)); (try (have nf4_1_1 : ¬ (w1.heap.size + 1 = w4.heap.size) := by omega))
          (try (have ne4_2_0 : ¬ (w4.heap.size = w2.heap.size) := by omega)); (try (have nf4_2_0 : ¬ (w2.heap.size = w4.heap.size) := by omega))
          (try (have ne4_2_1 : ¬ (w4.heap.size = w2.heap.size + 1) := by omega)); (try (have nf4_2_1 : ¬ (w2.heap.size + 1 = w4.heap.size) := by omega))
          (try (have ne4_3_0 : ¬ (w4.heap.size = w3.heap.size) := by omega)); (try (have nf4_3_0 : ¬ (w3.heap.size = w4.heap.size) := by omega))
          (try (have ne4_3_1 : ¬ (w4.heap.size = w3.heap.size + 1) := by omega)); (try (have nf4_3_1 : ¬ (w3.heap.size + 1 = w4.heap.size) := by omega))
          (try (have y4 : w.heap.size ≤ w4.heap.size := by omega))
          (try (have y4_1 : w1.heap.size ≤ w4.heap.size := by omega))
          (try (have y4_2 : w2.heap.size ≤ w4.heap.size := by omega))
          (try (have y4_3 : w3.heap.size ≤ w4.heap.size := by omega))
          (try (have z4_0_0 : w.heap.size < w4.heap.size := by omega))
          (try (have z4_0_1 : w.heap.size + 1 < w4.heap.size := by omega))
          (try (have z4_0_2 : w.heap.size + 1 + 1 < w4.heap.size := by omega))
          (try (have z4_1_0 : w1.heap.size < w4.heap.size := by omega))
          (try (have z4_1_1 : w1.heap.size + 1 < w4.heap.size := by omega))
          (try (have z4_2_0 : w2.heap.size < w4.heap.size := by omega))
          (try (have z4_2_1 : w2.heap.size + 1 < w4.heap.size := by omega))
          (try (have z4_3_0 : w3.heap.size < w4.heap.size := by omega))
          (try (have z4_3_1 : w3.heap.size + 1 < w4.heap.size := by omega))
          have ho4 := ho3.other hg4 (by omega)
          clear hc4 hf4 q4
          obtain ⟨l, -, f0, f1, f2, f3, -⟩ := ol_cells ho4 hq
          have e0 := ho4.frozen (q * 5)
          have e1 := ho4.frozen (q * 5 + 1)
          have e2 := ho4.frozen (q * 5 + 2)
          have e3 := ho4.frozen (q * 5 + 3)
          obtain ⟨ls', ho5⟩ := ol_setP ho4 hq b4 h4 t4 k4
          have hr5 : Rdr ((((w4.setCell ⟨h, q * 5, none⟩ (.int .i64 b4)).setCell ⟨h, q * 5 + 1, none⟩ (.int .i64 h4)).setCell ⟨h, q * 5 + 2, none⟩ (.bool t4)).setCell ⟨h, q * 5 + 3, none⟩ (.int .i64 k4)) B g (m + 80) := (Rdr.setO (Rdr.setO (Rdr.setO (Rdr.setO hr4 (by omega) (by omega) _) (by omega) (by omega) _) (by omega) (by omega) _) (by omega) (by omega) _).mono (by omega)
          go_wp2_with fail
          go_ret
          exact ⟨h, n, c, _, rfl, ho5, by omega, hr5, (by repeat' (first | with_reducible exact World.grownBy.refl _ _ | with_reducible refine gb_alloc ?_ _ | with_reducible refine gb_set ?_ (by first | omega | (simp; omega)) _ | with_reducible refine gb_drewN ?_ _ | with_reducible refine gb_drew1 ?_ | with_reducible refine gb_trans ?_ (by assumption)))⟩
        · have t0' : (x3 == 0) = false := by simpa using t0
          have t1' : (x3 == 1) = false := by simpa using t1
          have t2' : (x3 == 2) = false := by simpa using t2
          go_wp2_with fail
          go_ret
          exact ⟨h, n, c, ls, rfl, ho3, by omega, hr3.mono (by omega), hgb3⟩
  · obtain rfl : n = 0 := by omega
    go_wp2_with fail
    go_ret
    exact ⟨h, 0, c, ls, rfl, ho, by omega, hr1.mono (by omega), hg1⟩
/-- an order is drawn -/
def DrO (k : Nat) (w : World) : Ending → World → Prop := fun e w' => ∃ h n c ls, e = .returned (.slice (some ⟨h, 0, none⟩) n c) ∧ OL w' w.heap.size h n c ls ∧ n ≤ k ∧ Below w.heap.size w w'
set_option maxHeartbeats 1000000 in
theorem DrawValidOrder_c {w : World} {v : Value} (hv : BSl w v) : Calls Try.prog 51 #[v] w (DrO 5 w) := by
  obtain ⟨B, hB0, hv⟩ : ∃ B, B ≤ w.heap.size ∧ BSlB w B v := ⟨w.heap.size, Nat.le_refl _, hv⟩
  have hv' := hv
  obtain ⟨p, n, cap, rfl, _⟩ := hv'
  go_enter Try.func51, Try.ntmps51
  go_wp2_with fail
  go_at_call 80
  refine (newReader_c _ _ B (hv.below (by (repeat' (first | exact Below.refl _ _ | refine Below.alloc ?_ ?_ _ | refine Below.setCell ?_ ?_ _ | refine Below.drew ?_ | refine below_drewN ?_ _ | refine Below.trans ?_ (Below.mono (by assumption) ?_))) <;> (try first | omega | (simp; done) | (simp at *; omega))) hB0) (by first | omega | (simp; omega))).mono ?_
  rintro e w1 ⟨g, rfl, hr1, hL, hb1⟩
  have hH := hr1.lt
  have hB := hr1.ge
  obtain ⟨hc1, hf1, -, hz1⟩ := bcell hb1
  (try simp at hz1)
  (try simp at hL)
  have y1 : w.heap.size ≤ w1.heap.size := by omega
  (try (have z1_0 : w.heap.size < w1.heap.size := by omega))
  (try (have z1_1 : w.heap.size + 1 < w1.heap.size := by omega))
  go_wp2_with fail
  go_at_call 84
  refine (anyOrder_c (show Rdr _ B g _ by repeat' (first | with_reducible exact hr1 | with_reducible apply Rdr.alloc | with_reducible apply Rdr.drew1 | with_reducible apply Rdr.drew | (apply Rdr.setO (ha := by first | omega | (simp; omega)) (hB := by first | omega | (simp; omega))))) (by omega)).mono ?_
  rintro e w2 ⟨h, k, c, ls, rfl, ho, hk, hr2, hg2⟩
  obtain ⟨hc2, hf2, hz2⟩ := gcell hg2 hH
  (try simp at hz2)
  obtain ⟨hd2, he2⟩ := gcellL hg2 hL
  (try (have ne2_0_0 : ¬ (w2.heap.size = w.heap.size) := by omega)); (try (have nf2_0_0 : ¬ (w.heap.size = w2.heap.size) := by omega))
  (try (have ne2_0_1 : ¬ (w2.heap.size = w.heap.size + 1) := by omega)); (try (have nf2_0_1 : ¬ (w.heap.size + 1 = w2.heap.size) := by omega))
  (try (have ne2_1_0 : ¬ (w2.heap.size = w1.heap.size) := by omega)); (try (have nf2_1_0 : ¬ (w1.heap.size = w2.heap.size) := by omega))
  (try (have ne2_1_1 : ¬ (w2.heap.size = w1.heap.size + 1) := by omega)); (try (have nf2_1_1 : ¬ (w1.heap.size + 1 = w2.heap.size) := by omega))
  (try (have y2 : w.heap.size ≤ w2.heap.size := by omega))
  (try (have y2_1 : w1.heap.size ≤ w2.heap.size := by omega))
  (try (have z2_0_0 : w.heap.size < w2.heap.size := by omega))
  (try (have z2_0_1 : w.heap.size + 1 < w2.heap.size := by omega))
  (try (have z2_0_2 : w.heap.size + 1 + 1 < w2.heap.size := by omega))
  (try (have z2_1_0 : w1.heap.size < w2.heap.size := by omega))
  (try (have z2_1_1 : w1.heap.size + 1 < w2.heap.size := by omega))
  go_wp2_with fail
  go_ret
  exact ⟨h, k, c, ls, rfl, ho.le (by omega), hk, (by repeat' (first | with_reducible exact Below.refl _ _ | with_reducible refine Below.alloc ?_ (by first | omega | (simp; done) | (simp; omega)) _ | with_reducible refine Below.drew ?_ | with_reducible refine below_drewN ?_ _ | with_reducible refine Below.setCell ?_ (by first | omega | (simp; done) | (simp; omega)) _ | with_reducible refine Below.grown ?_ (by assumption) (by first | omega | (simp; done) | (simp; omega)) (by intro k hk; cases hk; omega) | with_reducible refine Below.trans ?_ (Below.mono (by assumption) (by first | omega | (simp; done) | (simp; omega)))))⟩
end Go.Proofs.Ytjanjaabcinkiaa
