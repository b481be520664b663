/- SwapsFor of spec, LiftsOf of spec and impl, and both laws' walks; no statement is proved here. -/
import Derived.Test.YtddpjgcodnfbjaaSwap
namespace Go.Proofs.Ytddpjgcodnfbjaa
open Go.ChangeShapes Go.WideShapes Go.ChangeAt Go.RowKit
set_option linter.unusedVariables false
set_option linter.unusedSimpArgs false

theorem FrN.sl {E : TypeId} {zs : List Int} {B : Nat} {g cap : Nat} {w : World} (ho : Own w B E (.slice (some ⟨g, 0, none⟩) zs.length cap) zs) (hs : zs.length ≤ 1048576) : Sl w g 0 zs.length cap zs := ho.sl hs ho.capm
theorem below_undrew {B : Nat} {w w' : World} (h : Below B w.drew w') : Below B w w' := ⟨h.os, h.tape, h.output, h.size, h.block⟩
/-- a fresh row of zeros -/
theorem zeros_own (w : World) (n : Nat) (hn : n ≤ maxLen) : Own (w.alloc (.cells (madeCells #[Value.int .i64 0] n) 3)) w.heap.size 3 (.slice (some ⟨w.heap.size, 0, none⟩) n n) (List.replicate n 0) := by
  unfold Own
  have := World.ownsRow_lit (size := 1) (base := w.heap.size) (e := 3) w (madeCells #[Value.int .i64 0] n) n (Nat.le_refl _) hn (by rw [size_madeCells]; omega)
  rw [List.length_replicate, List.map_replicate, ← toList_madeCells_one]
  exact this
theorem zeros_sl (w : World) (n : Nat) (hn : n ≤ 1048576) : Sl (w.alloc (.cells (madeCells #[Value.int .i64 0] n) 3)) w.heap.size 0 n n (List.replicate n 0) :=
  (zeros_own w n (by unfold maxLen; omega)).sl (by rw [List.length_replicate]; exact hn) (by unfold maxLen; omega)
theorem el_zeros {n i : Nat} (h : i < n) : el (List.replicate n 0) i = 0 := by rw [el_get (by simpa using h)]; simp
set_option maxHeartbeats 1000000 in
theorem spec_SwapsFor_s {b off n cap : Nat} {zs : List Int} {w : World} (h : Sl w b off n cap zs) :
    Calls Try.prog 45 #[.slice (some ⟨b, off, none⟩) n cap] w (Rt (.int .i64 (swapsI zs)) w) := by
  have hml : n ≤ maxLen := by have := h.small; unfold maxLen; omega
  have hsm := h.small
  cases hv : vTurn zs
  · have HI : Hid (swapsI zs = -1) := by show _ = _; unfold swapsI; rw [hv]; rfl
    go_enter Try.func45, Try.ntmps45
    go_wp2_with (go_at_call 70; refine (spec_validTurn_s h).mono ?_; rintro e w1 ⟨rfl, d1, rfl⟩)
    go_ret
    exact ⟨ret_int HI.out.symm, by (repeat' (first | exact Below.refl _ _ | refine Below.alloc ?_ ?_ _ | refine Below.setCell ?_ ?_ _ | refine Below.drew ?_ | refine below_drewN ?_ _ | refine Below.trans ?_ (Below.mono (by assumption) ?_))) <;> (try first | omega | (simp; done) | (simp at *; omega))⟩
  · have hn24 : n ≤ 24 := by have := (vTurn_iff.1 hv).1; rwa [h.len] at this
    have HI : Hid (swapsI zs = pairsB (invF zs) n) := by show _ = _; unfold swapsI; rw [hv, if_pos rfl, h.len]
    have HN : Hid (zs.length = n) := h.len
    have hmk := run_make_row' (P := Try.prog) 23 3 (.int .i64 0) 8 Try.underlying23 Try.infoInt rfl .i64 .i64 n (by omega) hml
    have hfin : ∀ (g1 c1 g2 : Nat) (wx : World), Sl wx g1 0 n c1 zs.reverse → Sl wx g2 0 n n (List.replicate n 0) → Calls Try.prog 81 #[.slice (some ⟨g1, 0, none⟩) n c1, .slice (some ⟨g2, 0, none⟩) n n] wx (Rd (.int .i64 (swapsI zs)) wx) := by
      intro g1 c1 g2 wx s1 s2
      have := spec_liftsOf_s s1 s2 hn24
      rwa [swaps_rev zs _ n HN.out (fun i k hi hk => by rw [el_zeros hi, el_zeros hk]), ← HI.out] at this
    have hbk : ∀ W, Below w.heap.size w W → Calls Try.prog 82 #[.slice (some ⟨b, off, none⟩) n cap] W fun e w' => ∃ g c, e = .returned (.slice (some ⟨g, 0, none⟩) n c) ∧ Sl w' g 0 n c zs.reverse ∧ Below W.heap.size W w' := fun W hW =>
      (spec_backwards_s (h.below hW)).mono fun e w' ⟨g, c, he, ho, hb⟩ => by
        rw [List.length_reverse, HN.out] at he ho
        exact ⟨g, c, he, ho.sl (by rw [List.length_reverse, HN.out]; exact hsm) ho.capm, hb⟩
    go_enter Try.func45, Try.ntmps45
    go_wp2_with (go_at_call 70; refine (spec_validTurn_s h).mono ?_; rintro e w1 ⟨rfl, hd1⟩)
    have hB1 := hd1.below
    have hz1 := hB1.size
    go_region_with (first | (go_at_call 82; refine (hbk _ (by (repeat' (first | exact Below.refl _ _ | refine Below.alloc ?_ ?_ _ | refine Below.setCell ?_ ?_ _ | refine Below.drew ?_ | refine below_drewN ?_ _ | refine Below.trans ?_ (Below.mono (by assumption) ?_))) <;> (try first | omega | (simp; done) | (simp at *; omega)))).mono ?_; rintro e w2 ⟨g2, c2, rfl, hs2, hb2⟩; have hz2 := hb2.size; (try simp at hz2)) | (go_at_call 81; refine (rd_rt (hfin _ _ _ _ (by first | with_reducible exact hs2 | exact hs2.below ((Below.refl _ _).alloc (Nat.le_refl _) _)) (by first | with_reducible exact zeros_sl w2 n hsm | exact (zeros_sl w1 n hsm).below (below_undrew hb2)))).mono ?_; rintro e w3 ⟨rfl, hb3⟩))
    all_goals (go_wp2; go_ret; refine ⟨rfl, ?_⟩)
    all_goals (repeat' (first | exact Below.refl _ _ | refine Below.alloc ?_ ?_ _ | refine Below.setCell ?_ ?_ _ | refine Below.drew ?_ | refine below_drewN ?_ _ | refine Below.trans ?_ (Below.mono (by assumption) ?_))) <;> (try first | omega | (simp; done) | (simp at *; omega))
/-- as many numbers of stacks as panes, each in 0..23 -/
def okSt (ss : List Int) (k : Nat) : Prop := ∀ i, i < k → 0 ≤ el ss i ∧ el ss i ≤ 23
instance (ss : List Int) (k : Nat) : Decidable (okSt ss k) := by unfold okSt; infer_instance
@[irreducible] def vStacks (xs ss : List Int) : Bool := vTurn xs && decide (ss.length = xs.length) && decide (okSt ss ss.length)
theorem okSt_succ {ss : List Int} {k : Nat} (h : okSt ss k) (h1 : 0 ≤ el ss k ∧ el ss k ≤ 23) : okSt ss (k + 1) := fun i hi => by
  by_cases e : i = k
  · subst e; exact h1
  · exact h i (by omega)
theorem vStacks_no {xs ss : List Int} {k : Nat} (hk : k < ss.length) (h : ¬ (0 ≤ el ss k ∧ el ss k ≤ 23)) : vStacks xs ss = false := by
  unfold vStacks
  rw [decide_eq_false (p := okSt ss ss.length) (fun h2 => h (h2 k hk))]
  simp
theorem vStacks_ok {xs ss : List Int} (h : okSt ss ss.length) : vStacks xs ss = (vTurn xs && decide (ss.length = xs.length)) := by
  unfold vStacks; simp [h]
theorem vStacks_iff {xs ss : List Int} : vStacks xs ss = true ↔ vTurn xs = true ∧ ss.length = xs.length ∧ okSt ss ss.length := by
  unfold vStacks; simp [and_assoc]
def liftsI (xs ss : List Int) : Int := if vStacks xs ss = true then pairsB (liftF xs ss) xs.length else -1
end Go.Proofs.Ytddpjgcodnfbjaa
