/- Slices of box structs: cells, and what szS, toS, eqS of the laws do; no statement is proved here. -/
import Derived.Test.YtjanjaabcinkiaaRow
import Derived.Test.YtjanjaabcinkiaaBox
namespace Go.Proofs.Ytjanjaabcinkiaa
open Go.ChangeShapes Go.WideShapes Go.ChangeAt Go.RowKit Go.Deep
set_option linter.unusedVariables false
set_option linter.unusedSimpArgs false

def boxF (a0 : Nat → Int) (a1 : Nat → Int) (a2 : Nat → Int) (a3 : Nat → Int) (i j : Nat) : Value := match j with | 0 => .int .i64 (a0 i) | 1 => .int .i64 (a1 i) | 2 => .int .i64 (a2 i) | _ => .int .i64 (a3 i)
theorem box_cells {w : World} {b off n cap : Nat} {a0 : Nat → Int} {a1 : Nat → Int} {a2 : Nat → Int} {a3 : Nat → Int} (h : RSl w b off n cap 4 (boxF a0 a1 a2 a3)) {i : Nat} (hi : i < n) : w.cell? ⟨b, off + i * 4, none⟩ = some (.int .i64 (a0 i)) ∧ w.cell? ⟨b, off + i * 4 + 1, none⟩ = some (.int .i64 (a1 i)) ∧ w.cell? ⟨b, off + i * 4 + 2, none⟩ = some (.int .i64 (a2 i)) ∧ w.cell? ⟨b, off + i * 4 + 3, none⟩ = some (.int .i64 (a3 i)) :=
  ⟨h.cell i 0 hi (by omega), h.cell i 1 hi (by omega), h.cell i 2 hi (by omega), h.cell i 3 hi (by omega)⟩
theorem box_put {w : World} {B g n k : Nat} {E : TypeId} {a0 : Nat → Int} {a1 : Nat → Int} {a2 : Nat → Int} {a3 : Nat → Int} (h : RRow w B g n 4 E (k * 4) (boxF a0 a1 a2 a3)) (hk : k < n) : RRow ((((w.setCell ⟨g, k * 4, none⟩ (.int .i64 (a0 k))).setCell ⟨g, k * 4 + 1, none⟩ (.int .i64 (a1 k))).setCell ⟨g, k * 4 + 2, none⟩ (.int .i64 (a2 k))).setCell ⟨g, k * 4 + 3, none⟩ (.int .i64 (a3 k))) B g n 4 E ((k + 1) * 4) (boxF a0 a1 a2 a3) :=
  RRow.q (RRow.put' (k := k) (j := 3) (RRow.put' (k := k) (j := 2) (RRow.put' (k := k) (j := 1) (RRow.put' (k := k) (j := 0) h (by omega) (by omega) rfl hk (by omega)) (by omega) (by omega) rfl hk (by omega)) (by omega) (by omega) rfl hk (by omega)) (by omega) (by omega) rfl hk (by omega)) (by omega)
theorem szBoxS_c (p : Option Addr) (n cap : Nat) (left : Int) (w : World) (hn : n ≤ maxLen) (hl : 0 ≤ left ∧ left ≤ 2000000) : Calls Try.prog 33 #[.slice p n cap, (.int .i64 left)] w (Rs (.int .i64 (if (n : Int) ≤ left then left - n else -1)) w) := by
  have hm := hn
  unfold maxLen at hm
  obtain ⟨hl1, hl2⟩ := hl
  by_cases h : (n : Int) ≤ left
  · have d1 : decide (left - (n : Int) < 0) = false := decide_eq_false (by omega)
    rw [if_pos h]
    go_enter Try.func33, Try.ntmps33
    go_wp2
    go_ret
    exact ⟨rfl, rfl⟩
  · have d1 : decide (left - (n : Int) < 0) = true := decide_eq_true (by omega)
    rw [if_neg h]
    go_enter Try.func33, Try.ntmps33
    go_wp2
    go_ret
    exact ⟨rfl, rfl⟩
theorem eqBox_c (x0 : Int) (x1 : Int) (x2 : Int) (x3 : Int) (w : World) : Calls Try.prog 72 #[(.agg #[.int .i64 x0, .int .i64 x1, .int .i64 x2, .int .i64 x3]), (.agg #[.int .i64 x0, .int .i64 x1, .int .i64 x2, .int .i64 x3])] w (Rt (.bool true) w) := by
  go_enter Try.func72, Try.ntmps72
  go_wp2
  go_ret
  exact ⟨rfl, (by repeat' (first | with_reducible exact Below.refl _ _ | with_reducible refine Below.alloc ?_ (by first | omega | (simp; done) | (simp; omega)) _ | with_reducible refine Below.drew ?_ | with_reducible refine below_drewN ?_ _ | with_reducible refine Below.setCell ?_ (by first | omega | (simp; done) | (simp; omega)) _ | with_reducible refine Below.grown ?_ (by assumption) (by first | omega | (simp; done) | (simp; omega)) (by intro k hk; cases hk; omega) | with_reducible refine Below.trans ?_ (Below.mono (by assumption) (by first | omega | (simp; done) | (simp; omega)))))⟩
theorem infoBox : (Try.prog.info? 78).map (fun i => (i.zero, i.size, i.bytes)) = some (some (.agg #[.int .i64 0, .int .i64 0, .int .i64 0, .int .i64 0]), 4, 32) := by kernel_rfl
set_option maxHeartbeats 1600000 in
theorem toBoxS_c (v : Value) (n : Nat) (a0 : Nat → Int) (a1 : Nat → Int) (a2 : Nat → Int) (a3 : Nat → Int) (w : World) (hv : RISl w v n 4 (boxF a0 a1 a2 a3)) (hn : n ≤ 1048576) : Calls Try.prog 35 #[v] w (FrR n 4 (boxF a0 a1 a2 a3) w) := by
  obtain ⟨i0, hi, hz0, hz1, hz2⟩ := info_parts infoBox
  obtain ⟨p, cap, rfl, hp⟩ := hv
  by_cases h0 : 0 < n
  · obtain ⟨b, off, rfl, h⟩ := hp h0
    clear hp
    go_enter Try.func35, Try.ntmps35
    go_wp2_with (refine wpList_make_full _ rfl _ _ 55 rfl w.heap.size 78 i0 (.agg #[.int .i64 0, .int .i64 0, .int .i64 0, .int .i64 0]) 4 Try.underlying55 hi hz0 hz1 .i64 .i64 _ _ n rfl rfl rfl rfl (by rw [hz2]; omega) (by unfold maxLen; omega) (Nat.le_refl _) ?_; intro w1 hown1 hgrow1)
    have ho1 : RRow w1 w.heap.size w.heap.size n 4 78 (0 * 4) (boxF a0 a1 a2 a3) := RRow.q (RRow.of _ hown1 (by simp [madeCells])) (by omega)
    have hb1 : Below w.heap.size w w1 := (Below.refl _ _).grown hgrow1 (Nat.le_refl _) (fun k hk => by cases hk)
    clear hown1 hgrow1
    go_loopw [4] (fun i wr => ∃ k : Nat, k ≤ n ∧ i = .int .i64 k ∧ RRow wr w.heap.size w.heap.size n 4 78 (k * 4) (boxF a0 a1 a2 a3) ∧ Below w.heap.size w wr) (fun i _ => n - (intOf i).toNat)
    case atStart => exact ⟨0, Nat.zero_le _, rfl, ho1, hb1⟩
    case round =>
      obtain ⟨k, hk, rfl, ho, hbr⟩ := hrel
      clear ho1 hb1
      by_cases hlt : k < n
      · have i1 : (0 : Int) ≤ (k : Int) := by omega
        have i2 : (k : Int) < (n : Int) := by omega
        obtain ⟨c0, c1, c2, c3⟩ := box_cells (h.below hbr) hlt
        have hput := fun (W : World) (hW : RRow W w.heap.size w.heap.size n 4 78 (k * 4) (boxF a0 a1 a2 a3)) => box_put hW hlt
        obtain ⟨x0, hx0⟩ : ∃ x, x = a0 k := ⟨_, rfl⟩
        rw [← hx0] at c0
        obtain ⟨x1, hx1⟩ : ∃ x, x = a1 k := ⟨_, rfl⟩
        rw [← hx1] at c1
        obtain ⟨x2, hx2⟩ : ∃ x, x = a2 k := ⟨_, rfl⟩
        rw [← hx2] at c2
        obtain ⟨x3, hx3⟩ : ∃ x, x = a3 k := ⟨_, rfl⟩
        rw [← hx3] at c3
        simp only [← hx0, ← hx1, ← hx2, ← hx3] at hput
        clear hx0 hx1 hx2 hx3
        have hsz := hbr.size
        go_wp2_with fail
        go_at_call 69
        refine (toBox_c x0 x1 x2 x3 _).mono ?_
        rintro e w2 ⟨rfl, hb2⟩
        have ho2 := ho.below hb2
        obtain ⟨⟨u0, hu0⟩, hf0⟩ := ho2.old (j := k * 4) (by omega)
        obtain ⟨⟨u1, hu1⟩, hf1⟩ := ho2.old (j := k * 4 + 1) (by omega)
        obtain ⟨⟨u2, hu2⟩, hf2⟩ := ho2.old (j := k * 4 + 2) (by omega)
        obtain ⟨⟨u3, hu3⟩, hf3⟩ := ho2.old (j := k * 4 + 3) (by omega)
        have hB2 := hbr.trans (hb2.mono hsz)
        have hb3 := ((((hB2.setCell (p := ⟨w.heap.size, k * 4, none⟩) (Nat.le_refl _) (.int .i64 (x0))).setCell (p := ⟨w.heap.size, k * 4 + 1, none⟩) (Nat.le_refl _) (.int .i64 (x1))).setCell (p := ⟨w.heap.size, k * 4 + 2, none⟩) (Nat.le_refl _) (.int .i64 (x2))).setCell (p := ⟨w.heap.size, k * 4 + 3, none⟩) (Nat.le_refl _) (.int .i64 (x3)))
        have ho3 := hput _ ho2
        go_wp2_with fail
        go_roundw
        case rel => exact ⟨k + 1, by omega, by go_num, ho3, hb3⟩
        case measure => simp [intOf]; omega
      · have hkn := mkhid (show k = n by omega)
        have hfin := RRow.sl (RRow.q ho (by rw [hkn.out])) hn
        go_wp2
        go_ret
        exact ⟨w.heap.size, rfl, Nat.le_refl _, hfin, hbr⟩
  · go_enter Try.func35, Try.ntmps35
    go_wp2_with (refine wpList_make_full _ rfl _ _ 55 rfl w.heap.size 78 i0 (.agg #[.int .i64 0, .int .i64 0, .int .i64 0, .int .i64 0]) 4 Try.underlying55 hi hz0 hz1 .i64 .i64 _ _ n rfl rfl rfl rfl (by rw [hz2]; omega) (by unfold maxLen; omega) (Nat.le_refl _) ?_; intro w1 hown1 hgrow1)
    have hn0 := mkhid (show n = 0 by omega)
    have ho1 : RRow w1 w.heap.size w.heap.size n 4 78 (n * 4) (boxF a0 a1 a2 a3) := RRow.q (RRow.of _ hown1 (by simp [madeCells])) (by rw [hn0.out])
    have hfin := ho1.sl hn
    have hb1 : Below w.heap.size w w1 := (Below.refl _ _).grown hgrow1 (Nat.le_refl _) (fun k hk => by cases hk)
    clear hown1 hgrow1
    have d1 : decide ((0 : Int) < (n : Int)) = false := decide_eq_false (by omega)
    go_loop [4] (fun i => i = .int .i64 0) (fun i => 0)
    case atStart => rfl
    case round =>
      obtain rfl := hrel
      go_wp2
      go_ret
      exact ⟨w.heap.size, rfl, Nat.le_refl _, hfin, hb1⟩
set_option maxHeartbeats 1600000 in
theorem eqBoxS_same {b off n cap b' off' cap' : Nat} {a0 : Nat → Int} {a1 : Nat → Int} {a2 : Nat → Int} {a3 : Nat → Int} {w : World} (h : RSl w b off n cap 4 (boxF a0 a1 a2 a3)) (h' : RSl w b' off' n cap' 4 (boxF a0 a1 a2 a3)) : Calls Try.prog 37 #[.slice (some ⟨b, off, none⟩) n cap, .slice (some ⟨b', off', none⟩) n cap'] w (Rt (.bool true) w) := by
  have hsm := h.small
  have e0 : ((n : Int) != (n : Int)) = false := by simp
  go_enter Try.func37, Try.ntmps37
  go_wp2_with fail
  go_loopw [5] (fun i wr => ∃ k : Nat, k ≤ n ∧ i = .int .i64 k ∧ Below w.heap.size w wr) (fun i _ => n - (intOf i).toNat)
  case atStart => exact ⟨0, Nat.zero_le _, rfl, Below.refl _ _⟩
  case round =>
    obtain ⟨k, hk, rfl, hbr⟩ := hrel
    by_cases hlt : k < n
    · have i1 : (0 : Int) ≤ (k : Int) := by omega
      have i2 : (k : Int) < (n : Int) := by omega
      obtain ⟨c0, c1, c2, c3⟩ := box_cells (h.below hbr) hlt
      obtain ⟨e1, e2, e3, e4⟩ := box_cells (h'.below hbr) hlt
      obtain ⟨x0, hx0⟩ : ∃ x, x = a0 k := ⟨_, rfl⟩
      rw [← hx0] at c0 e1
      obtain ⟨x1, hx1⟩ : ∃ x, x = a1 k := ⟨_, rfl⟩
      rw [← hx1] at c1 e2
      obtain ⟨x2, hx2⟩ : ∃ x, x = a2 k := ⟨_, rfl⟩
      rw [← hx2] at c2 e3
      obtain ⟨x3, hx3⟩ : ∃ x, x = a3 k := ⟨_, rfl⟩
      rw [← hx3] at c3 e4
      clear hx0 hx1 hx2 hx3
      have hsz := hbr.size
      have CE := fun W => eqBox_c x0 x1 x2 x3 W
      go_wp2_with fail
      go_region_with (first | (go_at_call 72; refine (CE _).mono ?_; rintro e w2 ⟨rfl, hb2⟩))
      all_goals go_wp2_with fail
      all_goals go_roundw
      case rel => exact ⟨k + 1, by omega, by go_num, (by repeat' (first | with_reducible exact Below.refl _ _ | with_reducible refine Below.alloc ?_ (by first | omega | (simp; done) | (simp; omega)) _ | with_reducible refine Below.drew ?_ | with_reducible refine below_drewN ?_ _ | with_reducible refine Below.setCell ?_ (by first | omega | (simp; done) | (simp; omega)) _ | with_reducible refine Below.grown ?_ (by assumption) (by first | omega | (simp; done) | (simp; omega)) (by intro k hk; cases hk; omega) | with_reducible refine Below.trans ?_ (Below.mono (by assumption) (by first | omega | (simp; done) | (simp; omega)))))⟩
      all_goals (first | (simp [intOf]; omega) | exact ⟨k + 1, by omega, by go_num, (by repeat' (first | with_reducible exact Below.refl _ _ | with_reducible refine Below.alloc ?_ (by first | omega | (simp; done) | (simp; omega)) _ | with_reducible refine Below.drew ?_ | with_reducible refine below_drewN ?_ _ | with_reducible refine Below.setCell ?_ (by first | omega | (simp; done) | (simp; omega)) _ | with_reducible refine Below.grown ?_ (by assumption) (by first | omega | (simp; done) | (simp; omega)) (by intro k hk; cases hk; omega) | with_reducible refine Below.trans ?_ (Below.mono (by assumption) (by first | omega | (simp; done) | (simp; omega)))))⟩ | trace_state)
    · go_wp2
      go_ret
      exact ⟨rfl, hbr⟩
theorem box_reads {H : Type} {enc : TypeId × Value → H} {W : World} {k : Nat} {cs : List Value} {x : DataW H × List MemPlace} (h : DataW.trod enc Try.prog W 0 (fun _ => true) true k 99 cs = some x) (hl : cs.length = 4) :
    (∃ z, cs[0]? = some (.int .i64 (z))) ∧ (∃ z, cs[1]? = some (.int .i64 (z))) ∧ (∃ z, cs[2]? = some (.int .i64 (z))) ∧ (∃ z, cs[3]? = some (.int .i64 (z))) :=
  ⟨struct_int Try.underlying99 h (q := 0) (j := 0) rfl rfl (by kernel_rfl) (by kernel_rfl) (by omega), struct_int Try.underlying99 h (q := 1) (j := 1) rfl rfl (by kernel_rfl) (by kernel_rfl) (by omega), struct_int Try.underlying99 h (q := 2) (j := 2) rfl rfl (by kernel_rfl) (by kernel_rfl) (by omega), struct_int Try.underlying99 h (q := 3) (j := 3) rfl rfl (by kernel_rfl) (by kernel_rfl) (by omega)⟩
theorem open_boxs {H : Type} {enc : TypeId × Value → H} {W : World} {fuel : Nat} {v : Value} {x : DataW H × List MemPlace} (h : DataW.trod enc Try.prog W 0 (fun _ => true) true fuel 52 [v] = some x) :
    ∃ (n : Nat) (a0 : Nat → Int) (a1 : Nat → Int) (a2 : Nat → Int) (a3 : Nat → Int), RRaw W v n 4 (boxF a0 a1 a2 a3) := by
  obtain ⟨n, C, hr, hC⟩ := open_rraw (m := 4) Try.underlying52 (by kernel_rfl) (by omega) h
  obtain ⟨q, hq⟩ := choose_lt (α := Int × Int × Int × Int) (n := n) (p := fun i z => (C i)[0]? = some (.int .i64 (z.1)) ∧ (C i)[1]? = some (.int .i64 (z.2.1)) ∧ (C i)[2]? = some (.int .i64 (z.2.2.1)) ∧ (C i)[3]? = some (.int .i64 (z.2.2.2))) (fun i hi => by
    obtain ⟨hl, k, y, hy⟩ := hC i hi
    obtain ⟨⟨z0, h0⟩, ⟨z1, h1⟩, ⟨z2, h2⟩, ⟨z3, h3⟩⟩ := box_reads hy hl
    exact ⟨(z0, z1, z2, z3), h0, h1, h2, h3⟩)
  refine ⟨n, fun i => (q i).1, fun i => (q i).2.1, fun i => (q i).2.2.1, fun i => (q i).2.2.2, hr.congr fun i j hi hj => ?_⟩
  obtain ⟨h0, h1, h2, h3⟩ := hq i hi
  match j, hj with
  | 0, _ => simp [List.getD, h0, boxF]
  | 1, _ => simp [List.getD, h1, boxF]
  | 2, _ => simp [List.getD, h2, boxF]
  | 3, _ => simp [List.getD, h3, boxF]
end Go.Proofs.Ytjanjaabcinkiaa
