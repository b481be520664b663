/- The reader of spec: newReader, pick, one; no statement is proved here. -/
import Derived.Test.YtjanjaabcinkiaaInts
namespace Go.Proofs.Ytjanjaabcinkiaa
open Go.ChangeShapes Go.WideShapes Go.ChangeAt Go.RowKit
set_option linter.unusedVariables false
set_option linter.unusedSimpArgs false

/-- bytes of a slice, in blocks below B -/
def Bytes (w : World) (B : Nat) (p : Option Addr) (n : Nat) : Prop := 0 < n → ∃ b off, p = some ⟨b, off, none⟩ ∧ b < B ∧ b < w.heap.size ∧ ∀ i, i < n → ∃ x : Nat, x < 256 ∧ w.cell? ⟨b, off + i, none⟩ = some (.int .u8 x)
/-- a slice of bytes as an argument -/
def BSl (w : World) (v : Value) : Prop := ∃ p n cap, v = .slice p n cap ∧ n ≤ cap ∧ cap ≤ maxLen ∧ Bytes w w.heap.size p n
theorem Bytes.grown {w w' : World} {B n : Nat} {p : Option Addr} {row : Option Nat} (h : Bytes w B p n) (hg : w.grownBy w' row) (hr : ∀ r, row = some r → B ≤ r) : Bytes w' B p n := fun h0 => by
  obtain ⟨b, off, rfl, h1, h2, h3⟩ := h h0
  refine ⟨b, off, rfl, h1, Nat.lt_of_lt_of_le h2 hg.size, fun i hi => ?_⟩
  obtain ⟨x, hx, hc⟩ := h3 i hi
  exact ⟨x, hx, hg.cell hc (fun e => by have := hr b e.symm; omega)⟩
theorem Bytes.below {w w' : World} {B C n : Nat} {p : Option Addr} (h : Bytes w B p n) (hb : Below C w w') (hC : B ≤ C) : Bytes w' B p n := fun h0 => by
  obtain ⟨b, off, rfl, h1, h2, h3⟩ := h h0
  refine ⟨b, off, rfl, h1, Nat.lt_of_lt_of_le h2 hb.size, fun i hi => ?_⟩
  obtain ⟨x, hx, hc⟩ := h3 i hi
  exact ⟨x, hx, (hb.cell (p := ⟨b, off + i, none⟩) (by show b < C; omega)).trans hc⟩
theorem Bytes.take {w : World} {B n m : Nat} {p : Option Addr} (h : Bytes w B p n) (hm : m ≤ n) : Bytes w B p m := fun h0 => by
  obtain ⟨b, off, rfl, h1, h2, h3⟩ := h (by omega)
  exact ⟨b, off, rfl, h1, h2, fun i hi => h3 i (by omega)⟩
theorem Bytes.mono {w : World} {B C n : Nat} {p : Option Addr} (h : Bytes w B p n) (hB : B ≤ C) : Bytes w C p n := fun h0 => by
  obtain ⟨b, off, rfl, h1, h2, h3⟩ := h h0
  exact ⟨b, off, rfl, by omega, h2, h3⟩
theorem BSl.below {w w' : World} {v : Value} (h : BSl w v) (hb : Below w.heap.size w w') : BSl w' v := by
  obtain ⟨p, n, cap, h1, h2, h3, h4⟩ := h
  exact ⟨p, n, cap, h1, h2, h3, (h4.below hb (Nat.le_refl _)).mono hb.size⟩
/-- a reader of the call's own, that has picked at most m times -/
structure Rdr (w : World) (B g m : Nat) : Prop where
  ge : B ≤ g
  lt : g < w.heap.size
  frz : w.frozen? ⟨g, 1, none⟩ = false
  st : ∃ (p : Option Addr) (n cap k : Nat), w.cell? ⟨g, 0, none⟩ = some (.slice p n cap) ∧ w.cell? ⟨g, 1, none⟩ = some (.int .i64 k) ∧ k ≤ m ∧ n ≤ 2000 ∧ Bytes w B p n
theorem Rdr.grown {w w' : World} {B g m : Nat} {row : Option Nat} (h : Rdr w B g m) (hg : w.grownBy w' row) (hne : some g ≠ row) (hr : ∀ r, row = some r → B ≤ r) : Rdr w' B g m := by
  obtain ⟨h1, h2, h3, p, n, cap, k, c0, c1, hk, hn, hb⟩ := h
  exact ⟨h1, Nat.lt_of_lt_of_le h2 hg.size, (World.frozen?_of_block (hg.block g h2 hne)).trans h3, p, n, cap, k, hg.cell c0 hne, hg.cell c1 hne, hk, hn, hb.grown hg hr⟩
theorem Rdr.alloc {w : World} {B g m : Nat} (h : Rdr w B g m) (o : Obj) : Rdr (w.alloc o) B g m := h.grown (World.grownBy_alloc w o none) (by simp) (by simp)
theorem Rdr.below {w w' : World} {B g m : Nat} (h : Rdr w B g m) (hb : Below w.heap.size w w') : Rdr w' B g m :=
  h.grown (row := none) ⟨hb.os, hb.tape, hb.output, hb.size, fun k hk _ => hb.block k hk⟩ (by simp) (by simp)
theorem Rdr.mono {w : World} {B g m m' : Nat} (h : Rdr w B g m) (hm : m ≤ m') : Rdr w B g m' := by
  obtain ⟨h1, h2, h3, p, n, cap, k, c0, c1, hk, hn, hb⟩ := h
  exact ⟨h1, h2, h3, p, n, cap, k, c0, c1, by omega, hn, hb⟩
/-- a reader's call: it returns an x of which Q holds, and turns nothing but the reader -/
def Pk (Q : Int → Prop) (B g m : Nat) (w : World) : Ending → World → Prop := fun e w' => ∃ x, e = .returned (.int .i64 x) ∧ Q x ∧ Rdr w' B g m ∧ w.grownBy w' (some g)
/-- what a walk wants to know of the world behind such a call -/
theorem gcell {W w1 : World} {g H : Nat} (hg : W.grownBy w1 (some g)) (hH : g < H) : (∀ b o, H ≤ b → b < W.heap.size → w1.cell? ⟨b, o, none⟩ = W.cell? ⟨b, o, none⟩) ∧ (∀ b o, H ≤ b → b < W.heap.size → w1.frozen? ⟨b, o, none⟩ = W.frozen? ⟨b, o, none⟩) ∧ W.heap.size ≤ w1.heap.size :=
  ⟨fun b o h1 h2 => World.cell?_of_block (a := ⟨b, o, none⟩) (hg.block b h2 (by intro e; injection e with e; omega)), fun b o h1 h2 => World.frozen?_of_block (a := ⟨b, o, none⟩) (hg.block b h2 (by intro e; injection e with e; omega)), hg.size⟩
theorem xor_nn (a : Nat) (h : a < 9223372036854775808) : ∃ x : Nat, bits .xor .i64 (a : Int) ((a : Int) / 64) = (x : Int) ∧ x < 9223372036854775808 := by
  have d : ((a : Int) / 64) = ((a / 64 : Nat) : Int) := by simp
  have hb : a / 64 < 9223372036854775808 := Nat.lt_of_le_of_lt (Nat.div_le_self _ _) h
  have hx : a ^^^ a / 64 < 2 ^ 63 := Nat.xor_lt_two_pow (by omega) (by omega)
  refine ⟨a ^^^ a / 64, ?_, by omega⟩
  rw [d]
  have h1 : (BitVec.ofInt 64 (a : Int)).toNat = a := by
    rw [BitVec.ofInt_natCast, BitVec.toNat_ofNat]; exact Nat.mod_eq_of_lt (by omega)
  have h2 : (BitVec.ofInt 64 ((a / 64 : Nat) : Int)).toNat = a / 64 := by
    rw [BitVec.ofInt_natCast, BitVec.toNat_ofNat]; exact Nat.mod_eq_of_lt (by omega)
  show IntKind.i64.wrap ((BitVec.ofInt 64 (a : Int) ^^^ BitVec.ofInt 64 ((a / 64 : Nat) : Int)).toNat : Int) = _
  rw [BitVec.toNat_xor, h1, h2]
  exact IntWalk.i64_in _ (by omega)
theorem open_bsl {H : Type} {enc : TypeId × Value → H} {P : Program} {W : World} {base : Nat} {t e : TypeId} {v : Value} {d : DataW H} {p : List MemPlace} (ht : P.underlying t = some (.slice e)) (he : P.underlying e = some (.int .u8)) (hC : P.cellsOf e = 1)
    (hok : Value.okWide P W .any base t v) (h : DataW.Trod enc P W 0 (fun _ => true) true t v d p) (hlt : ∀ x ∈ p, x.block < W.heap.size) : BSl W v := by
  obtain ⟨a0, len, cap, rfl⟩ := okWide_slice ht hok
  obtain ⟨fuel, hf⟩ := h
  rcases open_ints ht he hC hf with ⟨hcs, hx⟩ | ⟨a, len', cap', zs, hcs, _, hl, hm, hz, hx, hcell, hwz⟩
  · simp [Value.cells] at hcs
    obtain ⟨rfl, rfl, rfl⟩ := hcs
    exact ⟨none, 0, 0, rfl, Nat.le_refl _, by unfold maxLen; omega, fun h => by omega⟩
  · simp [Value.cells] at hcs
    obtain ⟨rfl, rfl, rfl⟩ := hcs
    simp at hz
    refine ⟨some a, len, cap, rfl, hl, hm, fun h0 => ?_⟩
    have h0' : 0 < zs.length := by omega
    obtain ⟨b, off, rfl, hc⟩ := ints_at hcell h0'
    refine ⟨b, off, rfl, ?_, ?_, fun i hi => ?_⟩
    · simp only [Prod.mk.injEq] at hx
      exact hlt (.cell b (off + 0)) (by rw [hx.2]; simp only [MemPlace.row, List.mem_map, List.mem_range]; exact ⟨0, h0', rfl⟩)
    · simp only [Prod.mk.injEq] at hx
      exact hlt (.cell b (off + 0)) (by rw [hx.2]; simp only [MemPlace.row, List.mem_map, List.mem_range]; exact ⟨0, h0', rfl⟩)
    · have hi' : i < zs.length := by omega
      have hw := hwz zs[i] (List.getElem_mem hi')
      simp [Lit.wf, IntKind.min, IntKind.max, IntKind.bits, IntKind.signed] at hw
      refine ⟨zs[i].toNat, by omega, ?_⟩
      rw [hc i (by omega)]
      simp [hi']
      omega
theorem Rdr.new {w : World} {B : Nat} {p : Option Addr} {n cap : Nat} (hB : B ≤ w.heap.size) (hb : Bytes w B p n) (hn : n ≤ 2000) : Rdr (w.alloc (.cells #[.slice p n cap, .int .i64 0] 123)) B w.heap.size 0 := by
  have e : ∀ o : Obj, (w.alloc o).heap[w.heap.size]? = some o := fun o => by rw [← World.alloc_eq]; simp
  refine ⟨hB, by simp, ?_, p, n, cap, 0, ?_, ?_, Nat.le_refl _, hn, hb.grown (World.grownBy_alloc w _ none) (by simp)⟩
  · unfold World.frozen?; simp only [e]; simp
  · unfold World.cell?; simp only [e]; simp
  · unfold World.cell?; simp only [e]; simp
/-- a slice of bytes, in a block below B -/
def BSlB (w : World) (B : Nat) (v : Value) : Prop := ∃ p n cap, v = .slice p n cap ∧ n ≤ cap ∧ cap ≤ maxLen ∧ Bytes w B p n
theorem BSlB.below {w w' : World} {B C : Nat} {v : Value} (h : BSlB w B v) (hb : Below C w w') (hC : B ≤ C) : BSlB w' B v := by
  obtain ⟨p, n, cap, h1, h2, h3, h4⟩ := h
  exact ⟨p, n, cap, h1, h2, h3, h4.below hb hC⟩
theorem newReader_c (v : Value) (w : World) (B : Nat) (hv : BSlB w B v) (hB : B ≤ w.heap.size) : Calls Try.prog 80 #[v] w fun e w' => ∃ g, e = .returned (.pointer (some ⟨g, 0, none⟩)) ∧ Rdr w' B g 0 ∧ w.heap.size ≤ g ∧ Below w.heap.size w w' := by
  obtain ⟨p, n, cap, rfl, h1, h2, hb⟩ := hv
  have hm := h2
  unfold maxLen at hm
  by_cases h0 : 2000 < n
  · obtain ⟨b, off, rfl, hbb⟩ := hb (by omega)
    have hb' := hb.take (m := 2000) (by omega)
    have HR := Rdr.new (cap := cap) hB hb' (Nat.le_refl _)
    go_enter Try.func80, Try.ntmps80
    go_wp2
    go_ret
    exact ⟨_, rfl, HR, Nat.le_refl _, (Below.refl _ _).alloc (Nat.le_refl _) _⟩
  · have HR := Rdr.new (cap := cap) hB hb (by omega)
    go_enter Try.func80, Try.ntmps80
    go_wp2
    go_ret
    exact ⟨_, rfl, HR, Nat.le_refl _, (Below.refl _ _).alloc (Nat.le_refl _) _⟩
theorem gcellL {W w1 : World} {g L : Nat} (hg : W.grownBy w1 (some g)) (hL : L ≤ g) : (∀ b o, b < L → b < W.heap.size → w1.cell? ⟨b, o, none⟩ = W.cell? ⟨b, o, none⟩) ∧ (∀ b o, b < L → b < W.heap.size → w1.frozen? ⟨b, o, none⟩ = W.frozen? ⟨b, o, none⟩) :=
  ⟨fun b o h1 h2 => World.cell?_of_block (a := ⟨b, o, none⟩) (hg.block b h2 (by intro e; injection e with e; omega)), fun b o h1 h2 => World.frozen?_of_block (a := ⟨b, o, none⟩) (hg.block b h2 (by intro e; injection e with e; omega))⟩
/-- the reader's place moves on -/
theorem Rdr.next {w : World} {B g m k : Nat} (h : Rdr w B g m) (c1 : w.cell? ⟨g, 1, none⟩ = some (.int .i64 k)) (hk : k ≤ m) : Rdr (w.setCell ⟨g, 1, none⟩ (.int .i64 ((k : Int) + 1))) B g (m + 1) ∧ w.grownBy (w.setCell ⟨g, 1, none⟩ (.int .i64 ((k : Int) + 1))) (some g) := by
  obtain ⟨h1, h2, h3, p, n, cap, k', c0, c1', hk', hn, hb⟩ := h
  have hg : w.grownBy (w.setCell ⟨g, 1, none⟩ (.int .i64 ((k : Int) + 1))) (some g) := grown_setCell (grown_refl w (some g)) _
  refine ⟨⟨h1, Nat.lt_of_lt_of_le h2 hg.size, by rw [World.frozen?_setCell]; exact h3, p, n, cap, k + 1, ?_, ?_, by omega, hn, hb.grown hg (fun r hr => by cases hr; exact h1)⟩, hg⟩
  · rw [World.cell?_setCell_other _ _ _ _ (fun hh => by have := congrArg Addr.off hh; simp at this)]; exact c0
  · rw [World.cell?_setCell_same _ _ _ c1]; rfl
/-- a number less than n, 0 where there is none -/
def Upto (n x : Int) : Prop := 0 ≤ x ∧ (1 ≤ n → x < n)
theorem Rdr.drew {w : World} {B g m : Nat} (h : Rdr w B g m) (n : Nat) : Rdr (w.drewN n) B g m := h.below (below_of_drewN w n)
theorem grownBy_drewN {w w' : World} {row : Option Nat} (h : w.grownBy w' row) (n : Nat) : w.grownBy (w'.drewN n) row := ⟨h.os, h.tape, h.output, h.size, h.block⟩
set_option maxHeartbeats 1000000 in
theorem pick_c {w : World} {B g m : Nat} (h : Rdr w B g m) (hm : m ≤ 1000000) (n : Int) : Calls Try.prog 97 #[.pointer (some ⟨g, 0, none⟩), (.int .i64 n)] w (Pk (Upto n) B g (m + 1) w) := by
  have h' := h
  obtain ⟨hB, hg, hf, p, l, cap, k, c0, c1, hk, hl, hb⟩ := h'
  have HN := h.next c1 hk
  clear h
  have d0 : (w.setCell ⟨g, 1, none⟩ (.int .i64 ((k : Int) + 1))).cell? ⟨g, 0, none⟩ = some (.slice p l cap) := by
    rw [World.cell?_setCell_other _ _ _ _ (fun hh => by have := congrArg Addr.off hh; simp at this)]; exact c0
  have d1 : (w.setCell ⟨g, 1, none⟩ (.int .i64 ((k : Int) + 1))).cell? ⟨g, 1, none⟩ = some (.int .i64 ((k : Int) + 1)) := World.cell?_setCell_same _ _ _ c1
  by_cases h1 : n < 1
  · have e1 : decide (n < 1) = true := decide_eq_true h1
    have HQ : Upto n 0 := ⟨Int.le_refl _, fun hh => by omega⟩
    go_enter Try.func97, Try.ntmps97
    go_wp2
    go_ret
    exact ⟨0, rfl, HQ, HN⟩
  · have e1 : decide (n < 1) = false := decide_eq_false h1
    by_cases h2 : l = 0
    · subst h2
      have HQ : Upto n 0 := ⟨Int.le_refl _, fun hh => by omega⟩
      go_enter Try.func97, Try.ntmps97
      go_wp2
      go_ret
      exact ⟨0, rfl, HQ, HN⟩
    · have e2 : ((l : Int) == 0) = false := by simp; exact h2
      have hl0 : 0 < l := by omega
      obtain ⟨b, off, rfl, hb1, hb2, hcell⟩ := hb hl0
      have hbg : b ≠ g := by omega
      have hc2 : ∀ i, i < l → ∃ x : Nat, x < 256 ∧ (w.setCell ⟨g, 1, none⟩ (.int .i64 ((k : Int) + 1))).cell? ⟨b, off + i, none⟩ = some (.int .u8 x) := fun i hi => by
        obtain ⟨x, hx, hc⟩ := hcell i hi
        exact ⟨x, hx, by rw [World.cell?_setCell_other _ _ _ _ (fun hh => hbg (congrArg Addr.block hh).symm)]; exact hc⟩
      clear hcell hb h2
      by_cases h3 : k < l
      · obtain ⟨x, hx, hcx⟩ := hc2 k h3
        have i1 : (0 : Int) ≤ (k : Int) := by omega
        have i2 : (k : Int) < (l : Int) := by omega
        have HQ : Upto n ((x : Int) % n) := ⟨Int.emod_nonneg (x : Int) (b := n) (by omega), fun _ => Int.emod_lt_of_pos (x : Int) (b := n) (by omega)⟩
        clear hc2
        go_enter Try.func97, Try.ntmps97
        go_wp2_with fail
        go_ret
        exact ⟨_, rfl, HQ, HN⟩
      · obtain ⟨j, hj, hjl⟩ : ∃ j : Nat, Int.tmod (k : Int) (l : Int) = (j : Int) ∧ j < l := ⟨k % l, (Int.ofNat_tmod k l).symm, Nat.mod_lt _ hl0⟩
        obtain ⟨q, hq, hql⟩ : ∃ q : Nat, Int.tmod ((k : Int) * 7 + 3) (l : Int) = (q : Int) ∧ q < l := ⟨(k * 7 + 3) % l, by
          have := (Int.ofNat_tmod (k * 7 + 3) l).symm
          simpa using this, Nat.mod_lt _ hl0⟩
        obtain ⟨d, hd, hdl⟩ : ∃ d : Nat, Int.tdiv (k : Int) (l : Int) = (d : Int) ∧ d ≤ k := ⟨k / l, (Int.ofNat_tdiv k l).symm, Nat.div_le_self _ _⟩
        obtain ⟨x, hx, hcx⟩ := hc2 j hjl
        obtain ⟨y, hy, hcy⟩ := hc2 q hql
        obtain ⟨z, hz, hzl⟩ := xor_nn (x * 131 + y * 1117 + k * 29 + d * 53) (by omega)
        have hz' : bits .xor .i64 ((x : Int) * 131 + (y : Int) * 1117 + (k : Int) * 29 + (d : Int) * 53) (((x : Int) * 131 + (y : Int) * 1117 + (k : Int) * 29 + (d : Int) * 53) / 64) = (z : Int) := by
          rw [← hz]; simp
        have HQ : Upto n ((z : Int) % n) := ⟨Int.emod_nonneg (z : Int) (b := n) (by omega), fun _ => Int.emod_lt_of_pos (z : Int) (b := n) (by omega)⟩
        have f1 : IntKind.i64.wrap ((k : Int) * 7) = (k : Int) * 7 := IntWalk.i64_in _ (by omega)
        have f2 : IntKind.i64.wrap ((k : Int) * 7 + 3) = (k : Int) * 7 + 3 := IntWalk.i64_in _ (by omega)
        have f3 : IntKind.i64.wrap ((x : Int) * 131) = (x : Int) * 131 := IntWalk.i64_in _ (by omega)
        have f4 : IntKind.i64.wrap ((y : Int) * 1117) = (y : Int) * 1117 := IntWalk.i64_in _ (by omega)
        have f5 : IntKind.i64.wrap ((x : Int) * 131 + (y : Int) * 1117) = (x : Int) * 131 + (y : Int) * 1117 := IntWalk.i64_in _ (by omega)
        have f6 : IntKind.i64.wrap ((k : Int) * 29) = (k : Int) * 29 := IntWalk.i64_in _ (by omega)
        have f7 : IntKind.i64.wrap ((x : Int) * 131 + (y : Int) * 1117 + (k : Int) * 29) = (x : Int) * 131 + (y : Int) * 1117 + (k : Int) * 29 := IntWalk.i64_in _ (by omega)
        have f8 : IntKind.i64.wrap ((d : Int) * 53) = (d : Int) * 53 := IntWalk.i64_in _ (by omega)
        have f9 : IntKind.i64.wrap ((x : Int) * 131 + (y : Int) * 1117 + (k : Int) * 29 + (d : Int) * 53) = (x : Int) * 131 + (y : Int) * 1117 + (k : Int) * 29 + (d : Int) * 53 := IntWalk.i64_in _ (by omega)
        have g1 : IntKind.i64.wrap (j : Int) = (j : Int) := IntWalk.i64_in _ (by omega)
        have g2 : IntKind.i64.wrap (q : Int) = (q : Int) := IntWalk.i64_in _ (by omega)
        have g3 : IntKind.i64.wrap (d : Int) = (d : Int) := IntWalk.i64_in _ (by omega)
        have g4 : IntKind.i64.wrap (x : Int) = (x : Int) := IntWalk.i64_in _ (by omega)
        have g5 : IntKind.i64.wrap (y : Int) = (y : Int) := IntWalk.i64_in _ (by omega)
        have k1 : (0 : Int) ≤ (j : Int) := by omega
        have k2 : (j : Int) < (l : Int) := by omega
        have k3 : (0 : Int) ≤ (q : Int) := by omega
        have k4 : (q : Int) < (l : Int) := by omega
        have k5 : ¬ (k : Int) < (l : Int) := by omega
        have k6 : decide ((k : Int) < (l : Int)) = false := decide_eq_false k5
        have S0 : 0 ≤ (x : Int) * 131 + (y : Int) * 1117 + (k : Int) * 29 + (d : Int) * 53 := by omega
        have S1 : (x : Int) * 131 + (y : Int) * 1117 + (k : Int) * 29 + (d : Int) * 53 ≤ 1000000000000 := by omega
        clear hc2 hz
        go_enter Try.func97, Try.ntmps97
        go_wp2_with fail
        go_quiet (fail)
        clear f1 f2 f3 f4 f5 f6 f7 f8 f9 g1 g2 g3 g4 g5 hj hq hd hcx hcy
        go_wp2_with fail
        go_ret
        exact ⟨_, rfl, HQ, HN.1.drew _, grownBy_drewN HN.2 _⟩
theorem Sl.grown {W w : World} {b off n cap : Nat} {zs : List Int} {row : Option Nat} (h : Sl W b off n cap zs) (hg : W.grownBy w row) (hne : some b ≠ row) : Sl w b off n cap zs :=
  ⟨h.len, h.small, h.cap1, h.cap2, Nat.lt_of_lt_of_le h.lt hg.size, fun i hi => hg.cell (h.ints i hi) hne⟩
theorem one_c {w : World} {B g m b off n cap : Nat} {zs : List Int} (h : Rdr w B g m) (hm : m ≤ 1000000) (hs : Sl w b off n cap zs) (h1 : 1 ≤ n) (hne : b ≠ g) :
    Calls Try.prog 98 #[.pointer (some ⟨g, 0, none⟩), .slice (some ⟨b, off, none⟩) n cap] w (Pk (fun x => x ∈ zs) B g (m + 1) w) := by
  have hsm := hs.small
  have HN := mkhid hs.len
  have h2 : (1 : Int) ≤ (n : Int) := by omega
  have hne' : some b ≠ some g := by intro e; injection e with e; exact hne e
  go_enter Try.func98, Try.ntmps98
  go_wp2_with fail
  go_at_call 97
  refine (pick_c h (by omega) _).mono ?_
  rintro e w1 ⟨x1, rfl, hx1, hr1, hg1⟩
  obtain ⟨hxa, hxb⟩ := hx1
  replace hxb := hxb h2
  have s1 := hs.grown hg1 hne'
  obtain ⟨y, rfl⟩ : ∃ y : Nat, x1 = y := ⟨x1.toNat, by omega⟩
  have hyn : y < n := by omega
  have c1 := s1.cell hyn
  go_wp2_with fail
  go_ret
  exact ⟨_, rfl, el_mem (by rw [HN.out]; exact hyn), hr1, hg1⟩
/-- a list that is written out -/
theorem lit_sl (w : World) (zs : List Int) (n : Nat) (hn : zs.length = n) (h : n ≤ 1000) : Sl (w.alloc (.cells (zs.map (Value.int .i64)).toArray 3)) w.heap.size 0 n n zs := by
  refine ⟨hn, by omega, Nat.le_refl _, by unfold maxLen; omega, by simp, fun i hi => ?_⟩
  have e : ∀ o : Obj, (w.alloc o).heap[w.heap.size]? = some o := fun o => by rw [← World.alloc_eq]; simp
  unfold World.cell?; simp only [e]; simp [hi, el_get hi]
theorem lit_at (w : World) (zs : List Int) (n b : Nat) (hn : zs.length = n) (h : n ≤ 1000) (hb : w.heap.size = b) : Sl (w.alloc (.cells (zs.map (Value.int .i64)).toArray 3)) b 0 n n zs := hb ▸ lit_sl w zs n hn h
theorem gb_at {W w1 : World} {g b : Nat} (hg : W.grownBy w1 (some g)) (hb : b < W.heap.size) (hne : b ≠ g) : (∀ o, w1.cell? ⟨b, o, none⟩ = W.cell? ⟨b, o, none⟩) ∧ (∀ o, w1.frozen? ⟨b, o, none⟩ = W.frozen? ⟨b, o, none⟩) :=
  ⟨fun o => World.cell?_of_block (a := ⟨b, o, none⟩) (hg.block b hb (by intro e; injection e with e; omega)), fun o => World.frozen?_of_block (a := ⟨b, o, none⟩) (hg.block b hb (by intro e; injection e with e; omega))⟩
/-- n cells that hold ints -/
def AnyInts (w : World) (b n : Nat) : Prop := b < w.heap.size ∧ ∀ i, i < n → ∃ x : Int, w.cell? ⟨b, i, none⟩ = some (.int .i64 x)
theorem AnyInts.list {w : World} {b n : Nat} (h : AnyInts w b n) : ∃ zs : List Int, zs.length = n ∧ IntsAt w b 0 zs := by
  obtain ⟨_, h⟩ := h
  induction n with
  | zero => exact ⟨[], rfl, fun i hi => by simp at hi⟩
  | succ n ih =>
    obtain ⟨zs, hl, hz⟩ := ih (fun i hi => h i (by omega))
    obtain ⟨x, hx⟩ := h n (by omega)
    refine ⟨zs ++ [x], by simp [hl], fun i hi => ?_⟩
    simp at hi
    by_cases e : i < n
    · rw [el_append_left (by omega)]; exact hz i (by omega)
    · obtain rfl : i = zs.length := by omega
      rw [el_append_at, hl, Nat.zero_add]; exact hx
theorem lit_any (w : World) (cs : Array Value) (n b : Nat) (hb : w.heap.size = b) (hn : cs.size = n) (h : ∀ v ∈ cs.toList, ∃ x : Int, v = .int .i64 x) : AnyInts (w.alloc (.cells cs 3)) b n := by
  subst hb
  have e : ∀ o : Obj, (w.alloc o).heap[w.heap.size]? = some o := fun o => by rw [← World.alloc_eq]; simp
  refine ⟨by simp, fun i hi => ?_⟩
  obtain ⟨x, hx⟩ := h cs[i] (by simp)
  refine ⟨x, ?_⟩
  unfold World.cell?; simp only [e]; simp [hn, hi, hx]
theorem one_any {w : World} {B g m b n : Nat} (h : Rdr w B g m) (hm : m ≤ 1000000) (hs : AnyInts w b n) (h1 : 1 ≤ n ∧ n ≤ 1000) (hne : b ≠ g) :
    Calls Try.prog 98 #[.pointer (some ⟨g, 0, none⟩), .slice (some ⟨b, 0, none⟩) n n] w (Pk (fun _ => True) B g (m + 1) w) := by
  obtain ⟨zs, hl, hz⟩ := hs.list
  exact (one_c h hm ⟨hl, by omega, Nat.le_refl _, by unfold maxLen; omega, hs.1, hz⟩ h1.1 hne).mono fun e w' ⟨x, he, _, hr, hg⟩ => ⟨x, he, trivial, hr, hg⟩
end Go.Proofs.Ytjanjaabcinkiaa
