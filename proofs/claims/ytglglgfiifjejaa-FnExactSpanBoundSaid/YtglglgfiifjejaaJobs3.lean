/- toJobS of the laws; no statement is proved here. -/
import Derived.Test.YtglglgfiifjejaaJobs2
namespace Go.Proofs.Ytglglgfiifjejaa
open Go.ChangeShapes Go.WideShapes Go.ChangeAt Go.RowKit
set_option linter.unusedVariables false
set_option linter.unusedSimpArgs false

theorem infoJob : (Try.prog.info? 52).map (fun i => (i.zero, i.size, i.bytes)) = some (some (.agg #[.int .i64 0, .int .i64 0]), 2, 16) := by kernel_rfl
/-- a slice of jobs as an argument, nil or not -/
def JISl (w : World) (v : Value) (n : Nat) (cs hs : List Int) : Prop := ∃ p cap, v = .slice p n cap ∧ cs.length = n ∧ hs.length = n ∧ (0 < n → ∃ b off, p = some ⟨b, off, none⟩ ∧ JSl w b off n cap cs hs)
/-- a row of jobs of the call's own, the first k of them written -/
def JRow (w : World) (B g n k : Nat) (cs hs : List Int) : Prop := ∃ xs : List Value, w.ownsRow B 52 2 (.slice (some ⟨g, 0, none⟩) n n) n xs ∧ xs.length = n * 2 ∧ ∀ i, i < k → xs[i * 2]? = some (.int .i64 (el cs i)) ∧ xs[i * 2 + 1]? = some (.int .i64 (el hs i))
theorem JRow.below {W w : World} {B g n k : Nat} {cs hs : List Int} (h : JRow W B g n k cs hs) (hb : Below W.heap.size W w) : JRow w B g n k cs hs := by
  obtain ⟨xs, h1, h2, h3⟩ := h
  exact ⟨xs, own_below h1 hb, h2, h3⟩
theorem JRow.old {w : World} {B g n k : Nat} {cs hs : List Int} (h : JRow w B g n k cs hs) {j : Nat} (hj : j < n * 2) : (∃ u, w.cell? ⟨g, j, none⟩ = some u) ∧ w.frozen? ⟨g, j, none⟩ = false := by
  obtain ⟨xs, h1, h2, h3⟩ := h
  refine ⟨?_, h1.frozenAt j⟩
  rw [h1.cellAt j hj]
  exact ⟨_, List.getElem?_eq_getElem (by omega)⟩
theorem JRow.put {w : World} {B g n k : Nat} {cs hs : List Int} (h : JRow w B g n k cs hs) (hk : k < n) : JRow ((w.setCell ⟨g, k * 2, none⟩ (.int .i64 (el cs k))).setCell ⟨g, k * 2 + 1, none⟩ (.int .i64 (el hs k))) B g n (k + 1) cs hs := by
  obtain ⟨xs, h1, h2, h3⟩ := h
  refine ⟨(xs.set (k * 2) (.int .i64 (el cs k))).set (k * 2 + 1) (.int .i64 (el hs k)), ((h1.stored (k * 2) _).1.stored (k * 2 + 1) _).1, by simp [h2], fun i hi => ?_⟩
  simp only [List.getElem?_set, List.length_set, h2]
  by_cases e : i = k
  · subst e
    constructor
    · rw [if_neg (by omega), if_pos rfl, if_pos (by omega)]
    · rw [if_pos rfl, if_pos (by omega)]
  · have := h3 i (by omega)
    constructor
    · rw [if_neg (by omega), if_neg (by omega)]; exact this.1
    · rw [if_neg (by omega), if_neg (by omega)]; exact this.2
theorem JRow.sl {w : World} {B g n : Nat} {cs hs : List Int} (h : JRow w B g n n cs hs) (h1 : cs.length = n) (h2 : hs.length = n) (hn : n ≤ 1048576) : JSl w g 0 n n cs hs := by
  obtain ⟨xs, o1, o2, o3⟩ := h
  refine ⟨h1, h2, hn, Nat.le_refl _, by unfold maxLen; omega, (World.ownsRow.lt o1 g rfl).2, fun i hi => ?_, fun i hi => ?_⟩
  · rw [Nat.zero_add, o1.cellAt _ (by omega)]; exact (o3 i hi).1
  · rw [Nat.zero_add, o1.cellAt _ (by omega)]; exact (o3 i hi).2
/-- a call returns new memory that reads as the jobs -/
def FrJ (n : Nat) (cs hs : List Int) (w : World) : Ending → World → Prop := fun e w' => ∃ g, e = .returned (.slice (some ⟨g, 0, none⟩) n n) ∧ JSl w' g 0 n n cs hs ∧ Below w.heap.size w w'
set_option maxHeartbeats 1000000 in
theorem toJobS_c (v : Value) (n : Nat) (cs hs : List Int) (w : World) (hv : JISl w v n cs hs) (hn : n ≤ 1048576) : Calls Try.prog 28 #[v] w (FrJ n cs hs w) := by
  obtain ⟨i0, hi, hz0, hz1, hz2⟩ := info_parts infoJob
  obtain ⟨p, cap, rfl, l1, l2, hp⟩ := hv
  have L1 := mkhid l1
  have L2 := mkhid l2
  clear l1 l2
  by_cases h0 : 0 < n
  · obtain ⟨b, off, rfl, h⟩ := hp h0
    clear hp
    go_enter Try.func28, Try.ntmps28
    go_wp2_with (refine wpList_make_full _ rfl _ _ 29 rfl w.heap.size 52 i0 (.agg #[.int .i64 0, .int .i64 0]) 2 Try.underlying29 hi hz0 hz1 .i64 .i64 _ _ n rfl rfl rfl rfl (by rw [hz2]; omega) (by unfold maxLen; omega) (Nat.le_refl _) ?_; intro w1 hown1 hgrow1)
    have ho1 : JRow w1 w.heap.size w.heap.size n 0 cs hs := ⟨_, hown1, by simp [madeCells], fun i hi => by omega⟩
    have hb1 : Below w.heap.size w w1 := (Below.refl _ _).grown hgrow1 (Nat.le_refl _) (fun k hk => by cases hk)
    clear hown1 hgrow1
    go_loopw [4] (fun i wr => ∃ k : Nat, k ≤ n ∧ i = .int .i64 k ∧ JRow wr w.heap.size w.heap.size n k cs hs ∧ Below w.heap.size w wr) (fun i _ => n - (intOf i).toNat)
    case atStart => exact ⟨0, Nat.zero_le _, rfl, ho1, hb1⟩
    case round =>
      obtain ⟨k, hk, rfl, ho, hbr⟩ := hrel
      clear ho1 hb1
      by_cases hlt : k < n
      · have i1 : (0 : Int) ≤ (k : Int) := by omega
        have i2 : (k : Int) < (n : Int) := by omega
        have c1 := (h.below hbr).cell1 k hlt
        have c2 := (h.below hbr).cell2 k hlt
        have hput := fun (W : World) (hW : JRow W w.heap.size w.heap.size n k cs hs) => hW.put hlt
        obtain ⟨x, hx⟩ : ∃ x, x = el cs k := ⟨_, rfl⟩
        obtain ⟨y, hy⟩ : ∃ y, y = el hs k := ⟨_, rfl⟩
        rw [← hx] at c1
        rw [← hy] at c2
        simp only [← hx, ← hy] at hput
        clear hx hy
        have hsz := hbr.size
        go_wp2_with fail
        go_at_call 69
        refine (toJob_c x y _).mono ?_
        rintro e w2 ⟨rfl, hb2⟩
        have ho2 := ho.below hb2
        obtain ⟨⟨u, hu⟩, hf1⟩ := ho2.old (j := k * 2) (by omega)
        obtain ⟨⟨u2, hu2⟩, hf2⟩ := ho2.old (j := k * 2 + 1) (by omega)
        have hB2 := hbr.trans (hb2.mono hsz)
        have hb3 := (hB2.setCell (p := ⟨w.heap.size, k * 2, none⟩) (Nat.le_refl _) (.int .i64 x)).setCell (p := ⟨w.heap.size, k * 2 + 1, none⟩) (Nat.le_refl _) (.int .i64 y)
        have ho3 := hput _ ho2
        go_wp2_with fail
        go_roundw
        case rel => exact ⟨k + 1, by omega, by go_num, ho3, hb3⟩
        case measure => simp [intOf]; omega
      · have hkn := mkhid (show k = n by omega)
        have hfin := JRow.sl (hkn.out ▸ ho) L1.out L2.out hn
        go_wp2
        go_ret
        exact ⟨w.heap.size, rfl, hfin, hbr⟩
  · go_enter Try.func28, Try.ntmps28
    go_wp2_with (refine wpList_make_full _ rfl _ _ 29 rfl w.heap.size 52 i0 (.agg #[.int .i64 0, .int .i64 0]) 2 Try.underlying29 hi hz0 hz1 .i64 .i64 _ _ n rfl rfl rfl rfl (by rw [hz2]; omega) (by unfold maxLen; omega) (Nat.le_refl _) ?_; intro w1 hown1 hgrow1)
    have hn0 := mkhid (show n = 0 by omega)
    have ho1 : JRow w1 w.heap.size w.heap.size n n cs hs := ⟨_, hown1, by simp [madeCells], fun i hi => by have := hn0.out; omega⟩
    have hfin := ho1.sl L1.out L2.out hn
    have hb1 : Below w.heap.size w w1 := (Below.refl _ _).grown hgrow1 (Nat.le_refl _) (fun k hk => by cases hk)
    clear hown1 hgrow1
    have d1 : decide ((0 : Int) < (n : Int)) = false := decide_eq_false (by omega)
    go_loop [4] (fun i => i = .int .i64 0) (fun i => 0)
    case atStart => rfl
    case round =>
      obtain rfl := hrel
      go_wp2
      go_ret
      exact ⟨w.heap.size, rfl, hfin, hb1⟩
end Go.Proofs.Ytglglgfiifjejaa
