/- Slices of ints: what a walk says of them, and what the laws' own helpers (toIntS, eqIntS, markIntS, heldIntS) do; no statement is proved here. -/
import Derived.Test.YtjanjaabcinkiaaBase
import Derived.OwnWalk
import Derived.Deep.OwnRows
import Derived.Deep.Slices
import Derived.Lib.SmallJoins
namespace Go.Proofs.Ytjanjaabcinkiaa
open Go.ChangeShapes Go.WideShapes Go.ChangeAt Go.RowKit
set_option linter.unusedVariables false
set_option linter.unusedSimpArgs false

theorem mkhid {p : Prop} (h : p) : Hid p := h
/-- an element by its index; simp does not look into it -/
def el (zs : List Int) (i : Nat) : Int := zs.getD i 0
theorem el_get {zs : List Int} {i : Nat} (h : i < zs.length) : el zs i = zs[i] := by simp [el, h]
theorem el_mem {zs : List Int} {i : Nat} (h : i < zs.length) : el zs i ∈ zs := by rw [el_get h]; exact List.getElem_mem h
theorem mem_el {zs : List Int} {x : Int} (h : x ∈ zs) : ∃ i, i < zs.length ∧ el zs i = x := by
  obtain ⟨i, hi, rfl⟩ := List.getElem_of_mem h
  exact ⟨i, hi, el_get hi⟩
theorem el_take {zs : List Int} {i k : Nat} (h : i < k) : el (zs.take k) i = el zs i := by simp [el, List.getD, List.getElem?_take, h]
theorem el_set {zs : List Int} {i k : Nat} {x : Int} (h : k < zs.length) : el (zs.set k x) i = if i = k then x else el zs i := by
  unfold el
  by_cases e : i = k
  · subst e; simp [h]
  · rw [if_neg e]; simp [List.getD, List.getElem?_set, Ne.symm e]
theorem el_append_left {zs ys : List Int} {i : Nat} (h : i < zs.length) : el (zs ++ ys) i = el zs i := by simp [el, List.getD, List.getElem?_append_left h]
theorem el_append_at {zs : List Int} {x : Int} : el (zs ++ [x]) zs.length = x := by simp [el, List.getD]
theorem ext_el {zs ys : List Int} (hl : zs.length = ys.length) (h : ∀ i, i < zs.length → el zs i = el ys i) : zs = ys := by
  apply List.ext_getElem hl
  intro i h1 h2
  rw [← el_get h1, ← el_get h2]; exact h i h1
/-- the cells of a slice of ints -/
def IntsAt (w : World) (b off : Nat) (zs : List Int) : Prop := ∀ i, i < zs.length → w.cell? ⟨b, off + i, none⟩ = some (.int .i64 (el zs i))
theorem IntsAt.below {W w : World} {b off : Nat} {zs : List Int} (h : IntsAt W b off zs) (hb : Below W.heap.size W w) (hlt : b < W.heap.size) : IntsAt w b off zs :=
  fun i hi => (hb.cell (p := ⟨b, off + i, none⟩) hlt).trans (h i hi)
/-- a slice of ints as an argument: where it is not empty its cells are known -/
def ISl (w : World) (v : Value) (zs : List Int) : Prop := ∃ p cap, v = .slice p zs.length cap ∧ (0 < zs.length → ∃ b off, p = some ⟨b, off, none⟩ ∧ b < w.heap.size ∧ IntsAt w b off zs)
theorem ISl.below {W w : World} {v : Value} {zs : List Int} (h : ISl W v zs) (hb : Below W.heap.size W w) : ISl w v zs := by
  obtain ⟨p, cap, h1, h2⟩ := h
  refine ⟨p, cap, h1, fun h0 => ?_⟩
  obtain ⟨b, off, e, h3, h4⟩ := h2 h0
  exact ⟨b, off, e, Nat.lt_of_lt_of_le h3 hb.size, h4.below hb h3⟩
theorem ISl.of {w : World} {b off cap : Nat} {zs : List Int} (hb : b < w.heap.size) (h : IntsAt w b off zs) : ISl w (.slice (some ⟨b, off, none⟩) zs.length cap) zs := ⟨_, _, rfl, fun _ => ⟨b, off, rfl, hb, h⟩⟩
theorem open_isl {H : Type} {enc : TypeId × Value → H} {P : Program} {W : World} {base : Nat} {t e : TypeId} {v : Value} {d : DataW H} {p : List MemPlace} (ht : P.underlying t = some (.slice e)) (he : P.underlying e = some (.int .i64)) (hC : P.cellsOf e = 1)
    (hok : Value.okWide P W .any base t v) (h : DataW.Trod enc P W 0 (fun _ => true) true t v d p) (hlt : ∀ x ∈ p, x.block < W.heap.size) : ∃ zs, ISl W v zs := by
  obtain ⟨a0, len, cap, rfl⟩ := okWide_slice ht hok
  obtain ⟨fuel, hf⟩ := h
  rcases open_ints ht he hC hf with ⟨hcs, hx⟩ | ⟨a, len', cap', zs, hcs, _, hl, hm, hz, hx, hcell, hwz⟩
  · simp [Value.cells] at hcs
    obtain ⟨rfl, rfl, rfl⟩ := hcs
    exact ⟨[], none, 0, rfl, fun h => by simp at h⟩
  · simp [Value.cells] at hcs
    obtain ⟨rfl, rfl, rfl⟩ := hcs
    simp at hz
    refine ⟨zs.take len, some a, cap, by simp; omega, fun h0 => ?_⟩
    have h0' : 0 < zs.length := by simp at h0; omega
    obtain ⟨b, off, rfl, hc⟩ := ints_at hcell h0'
    refine ⟨b, off, rfl, ?_, fun i hi => ?_⟩
    · simp only [Prod.mk.injEq] at hx
      exact hlt (.cell b (off + 0)) (by rw [hx.2]; simp only [MemPlace.row, List.mem_map, List.mem_range]; exact ⟨0, h0', rfl⟩)
    · have hi' : i < len := by simp at hi; omega
      rw [hc i (by omega)]
      have := el_take (zs := zs) (i := i) (k := len) hi'
      rw [this]; rfl
/-- a row of ints that the call itself made -/
def Own (w : World) (B : Nat) (E : TypeId) (v : Value) (zs : List Int) : Prop := w.ownsRow B E 1 v zs.length (zs.map (Value.int .i64))
theorem own_below {W w : World} {B n size : Nat} {E : TypeId} {v : Value} {xs : List Value} (h : W.ownsRow B E size v n xs) (hb : Below W.heap.size W w) : w.ownsRow B E size v n xs := by
  obtain ⟨h1, h2⟩ := h
  refine ⟨h1, ?_⟩
  rcases h2 with h2 | ⟨g, cap, cur, hv, hg, hh, r⟩
  · exact .inl h2
  · exact .inr ⟨g, cap, cur, hv, hg, by rw [hb.block g (Array.getElem?_eq_some_iff.1 hh).1]; exact hh, r⟩
theorem Own.below {W w : World} {B : Nat} {E : TypeId} {v : Value} {zs : List Int} (h : Own W B E v zs) (hb : Below W.heap.size W w) : Own w B E v zs := own_below h hb
theorem Own.at {w : World} {B : Nat} {E : TypeId} {g n cap : Nat} {zs : List Int} (h : Own w B E (.slice (some ⟨g, 0, none⟩) n cap) zs) : n = zs.length ∧ B ≤ g ∧ g < w.heap.size ∧ IntsAt w g 0 zs ∧ zs.length ≤ cap := by
  have h' := h
  rcases h.2 with ⟨h', _⟩ | ⟨g', cap', cur, h', hb, hg, h4, _, _, htake⟩
  · simp at h'
  · simp only [Value.slice.injEq, Option.some.injEq, Addr.mk.injEq, and_true, true_and] at h'
    obtain ⟨rfl, rfl, rfl⟩ := h'
    refine ⟨rfl, hb, (Array.getElem?_eq_some_iff.1 hg).1, fun i hi => ?_, h4⟩
    have := World.ownsRow.cellAt (show w.ownsRow B E 1 _ _ _ from h) i (by omega)
    rw [Nat.zero_add, this]
    simp [hi, el_get hi]
theorem Own.forms {w : World} {B : Nat} {E : TypeId} {v : Value} {zs : List Int} (h : Own w B E v zs) : (v = .slice none 0 0 ∧ zs = []) ∨ ∃ g cap, v = .slice (some ⟨g, 0, none⟩) zs.length cap ∧ B ≤ g ∧ g < w.heap.size ∧ IntsAt w g 0 zs ∧ zs.length ≤ cap := by
  rcases Joins.ownsRow_forms h with ⟨rfl, h0⟩ | ⟨g, cap, rfl⟩
  · exact .inl ⟨rfl, List.eq_nil_of_length_eq_zero h0⟩
  · obtain ⟨_, h2, h3, h4, h5⟩ := Own.at h
    exact .inr ⟨g, cap, rfl, h2, h3, h4, h5⟩
theorem Own.isl {w : World} {B : Nat} {E : TypeId} {v : Value} {zs : List Int} (h : Own w B E v zs) : ISl w v zs := by
  rcases h.forms with ⟨rfl, rfl⟩ | ⟨g, cap, rfl, h2, h3, h4, _⟩
  · exact ⟨none, 0, rfl, fun h => by simp at h⟩
  · exact ISl.of h3 h4
/-- a call returns new memory that reads as zs -/
def FrI (E : TypeId) (zs : List Int) (w : World) : Ending → World → Prop := fun e w' => ∃ g, e = .returned (.slice (some ⟨g, 0, none⟩) zs.length zs.length) ∧ Own w' w.heap.size E (.slice (some ⟨g, 0, none⟩) zs.length zs.length) zs ∧ Below w.heap.size w w'
/-- the same, nil or not, whatever the capacity -/
def FrV (E : TypeId) (zs : List Int) (w : World) : Ending → World → Prop := fun e w' => ∃ v, e = .returned v ∧ Own w' w.heap.size E v zs ∧ Below w.heap.size w w'

/-- a call that only reads: v comes back; draws alone may have been made -/
def Drew (w w' : World) : Prop := ∃ n, w' = w.drewN n
theorem Drew.refl (w : World) : Drew w w := ⟨0, rfl⟩
theorem Drew.drew {w w' : World} (h : Drew w w') : Drew w w'.drew := by obtain ⟨n, rfl⟩ := h; exact ⟨n + 1, rfl⟩
theorem Drew.drewN {w w' : World} (h : Drew w w') (m : Nat) : Drew w (w'.drewN m) := by obtain ⟨n, rfl⟩ := h; exact ⟨n + m, World.drewN_drewN _ _ _⟩
theorem Drew.cell {w w' : World} (h : Drew w w') (a : Addr) : w'.cell? a = w.cell? a := by obtain ⟨n, rfl⟩ := h; rfl
theorem Drew.ints {w w' : World} (h : Drew w w') {b off : Nat} {zs : List Int} (hc : IntsAt w b off zs) : IntsAt w' b off zs := by obtain ⟨n, rfl⟩ := h; exact hc
theorem Drew.trans {a b c : World} (h : Drew a b) (k : Drew b c) : Drew a c := by obtain ⟨n, rfl⟩ := k; exact h.drewN n
theorem Drew.below {w w' : World} (h : Drew w w') : Below w.heap.size w w' := by obtain ⟨n, rfl⟩ := h; exact below_drewN (Below.refl _ _) n
def Rd (v : Value) (w : World) : Ending → World → Prop := fun e w' => e = .returned v ∧ Drew w w'
theorem IntsAt.drewN {w : World} {b off : Nat} {zs : List Int} (h : IntsAt w b off zs) (n : Nat) : IntsAt (w.drewN n) b off zs := h
theorem below_of_drewN (w : World) (n : Nat) : Below w.heap.size w (w.drewN n) := below_drewN (Below.refl _ _) n

theorem rd_rt {P : Program} {f : FuncId} {args : Array Value} {w : World} {v : Value} (h : Calls P f args w (Rd v w)) : Calls P f args w (Rt v w) := h.mono fun _ _ ⟨he, hd⟩ => ⟨he, hd.below⟩
theorem rs_rt {P : Program} {f : FuncId} {args : Array Value} {w : World} {v : Value} (h : Calls P f args w (Rs v w)) : Calls P f args w (Rt v w) := h.mono fun _ _ ⟨he, hw⟩ => ⟨he, hw ▸ Below.refl _ _⟩
/-- a slice of ints that is not nil, with all that a walk wants to know of it -/
structure Sl (w : World) (b off n cap : Nat) (zs : List Int) : Prop where
  len : zs.length = n
  small : n ≤ 1048576
  cap1 : n ≤ cap
  cap2 : cap ≤ maxLen
  lt : b < w.heap.size
  ints : IntsAt w b off zs
theorem Sl.below {W w : World} {b off n cap : Nat} {zs : List Int} (h : Sl W b off n cap zs) (hb : Below W.heap.size W w) : Sl w b off n cap zs := ⟨h.len, h.small, h.cap1, h.cap2, Nat.lt_of_lt_of_le h.lt hb.size, h.ints.below hb h.lt⟩
theorem Sl.drew {W w : World} {b off n cap : Nat} {zs : List Int} (h : Sl W b off n cap zs) (hd : Drew W w) : Sl w b off n cap zs := h.below hd.below
theorem Sl.drewN {W : World} {b off n cap : Nat} {zs : List Int} (h : Sl W b off n cap zs) (m : Nat) : Sl (W.drewN m) b off n cap zs := h.drew ⟨m, rfl⟩
theorem IntsAt.take {w : World} {b off : Nat} {zs : List Int} (h : IntsAt w b off zs) (k : Nat) : IntsAt w b off (zs.take k) := fun i hi => by
  rw [List.length_take] at hi
  rw [h i (by omega), el_take (by omega)]
theorem Sl.take {W : World} {b off n cap : Nat} {zs : List Int} (h : Sl W b off n cap zs) {k : Nat} (hk : k ≤ n) : Sl W b off k cap (zs.take k) :=
  ⟨by rw [List.length_take, h.len]; omega, Nat.le_trans hk h.small, Nat.le_trans hk h.cap1, h.cap2, h.lt, h.ints.take k⟩
theorem Sl.cell {W : World} {b off n cap : Nat} {zs : List Int} (h : Sl W b off n cap zs) {k : Nat} (hk : k < n) : W.cell? ⟨b, off + k, none⟩ = some (.int .i64 (el zs k)) := h.ints k (by rw [h.len]; exact hk)
theorem Sl.isl {W : World} {b off n cap : Nat} {zs : List Int} (h : Sl W b off n cap zs) : ISl W (.slice (some ⟨b, off, none⟩) n cap) zs := by
  have := ISl.of (cap := cap) h.lt h.ints
  rwa [h.len] at this
theorem Own.sl {w : World} {B : Nat} {E : TypeId} {g n cap : Nat} {zs : List Int} (h : Own w B E (.slice (some ⟨g, 0, none⟩) n cap) zs) (hs : zs.length ≤ 1048576) (hc : cap ≤ maxLen) : Sl w g 0 n cap zs := by
  obtain ⟨h1, h2, h3, h4, h5⟩ := Own.at h
  exact ⟨h1.symm, by omega, by omega, hc, h3, h4⟩
theorem Calls.q {P : Program} {f : FuncId} {args : Array Value} {w : World} {v : Value} {n : Nat} (h : Calls P f args (w.drewN n) (Rs v (w.drewN n))) : Calls P f args (w.drewN n) fun e w'' => e = .returned v ∧ ∃ m, w'' = w.drewN m :=
  Calls.quiet_of_same (h.mono fun _ _ ⟨he, hw⟩ => ⟨he, hw.symm⟩)
theorem Calls.qd {P : Program} {f : FuncId} {args : Array Value} {w : World} {v : Value} {n : Nat} (h : Calls P f args (w.drewN n) (Rd v (w.drewN n))) : Calls P f args (w.drewN n) fun e w'' => e = .returned v ∧ ∃ m, w'' = w.drewN m :=
  Calls.quiet_of h

theorem Try.infoInt : (Try.prog.info? 3).map (fun i => (i.zero, i.size, i.bytes)) = some (some (.int .i64 0), 1, 8) := by kernel_rfl

theorem set_take (zs ys : List Int) (k : Nat) (h : k < zs.length) (hy : ys.length = zs.length - k) : (zs.take k ++ ys).set k (el zs k) = zs.take (k + 1) ++ ys.drop 1 := by
  have hk : (zs.take k).length = k := by simp; omega
  rw [List.set_append_right _ _ (by omega), hk, Nat.sub_self, List.take_succ_eq_append_getElem h]
  cases ys with
  | nil => simp at hy; omega
  | cons y ys => simp only [el_get h, List.set_cons_zero, List.drop_one, List.tail_cons, Option.getD_some, List.append_assoc, List.singleton_append]
theorem fill_step (zs : List Int) (k n : Nat) (hn : zs.length = n) (hk : k < n) :
    ((zs.take k ++ List.replicate (n - k) 0).map (Value.int .i64)).set k (.int .i64 (el zs k)) = (zs.take (k + 1) ++ List.replicate (n - (k + 1)) 0).map (Value.int .i64) := by
  rw [← List.map_set, set_take zs _ k (by omega) (by simp [hn])]
  congr 2
  cases h : n - k with
  | zero => omega
  | succ m => rw [List.replicate_succ, List.drop_one, List.tail_cons]; congr 1; omega
theorem fill_end (zs : List Int) (k n : Nat) (hn : zs.length = n) (hk : ¬ k < n) : (zs.take k ++ List.replicate (n - k) 0).map (Value.int .i64) = zs.map (Value.int .i64) := by
  rw [List.take_of_length_le (by omega), show n - k = 0 by omega]; simp
theorem grown_setCell {w wr : World} {g j : Nat} (h : w.grownBy wr (some g)) (u : Value) : w.grownBy (wr.setCell ⟨g, j, none⟩ u) (some g) :=
  ⟨h.os, h.tape, h.output, by simp [World.setCell]; exact h.size, fun k hk hne => by rw [Below.heap_setCell _ _ _ _ (fun e => hne (by simp [e]))]; exact h.block k hk hne⟩
theorem grown_drewN {w wr : World} {r : Option Nat} (h : w.grownBy wr r) (n : Nat) : w.grownBy (wr.drewN n) r := ⟨h.os, h.tape, h.output, h.size, h.block⟩
theorem grown_trans {a b c : World} {r : Option Nat} (h : a.grownBy b r) (k : b.grownBy c r) : a.grownBy c r :=
  ⟨k.os.trans h.os, k.tape.trans h.tape, k.output.trans h.output, Nat.le_trans h.size k.size, fun i hi hne => (k.block i (Nat.lt_of_lt_of_le hi h.size) hne).trans (h.block i hi hne)⟩
theorem grown_refl (w : World) (r : Option Nat) : w.grownBy w r := ⟨rfl, rfl, rfl, Nat.le_refl _, fun _ _ _ => rfl⟩
theorem grown_below {w w' : World} {r : Option Nat} {B : Nat} (h : w.grownBy w' r) (hB : B ≤ w.heap.size) (hr : ∀ k, r = some k → B ≤ k) : Below B w w' := (Below.refl _ _).grown h hB hr
theorem Own.kept {w w' : World} {B : Nat} {E : TypeId} {v : Value} {zs : List Int} {r : Option Nat} (h : Own w B E v zs) (hg : w.grownBy w' r) (hne : v.ownBlock = none ∨ v.ownBlock ≠ r) : Own w' B E v zs := World.ownsRow.kept h hg hne
theorem Own.capm {w : World} {B : Nat} {E : TypeId} {g n cap : Nat} {zs : List Int} (h : Own w B E (.slice (some ⟨g, 0, none⟩) n cap) zs) : cap ≤ maxLen := by
  rcases h.2 with ⟨h', _⟩ | ⟨g', cap', cur, h', hb, hg, h4, h5, _⟩
  · simp at h'
  · simp only [Value.slice.injEq, Option.some.injEq, Addr.mk.injEq, and_true, true_and] at h'
    obtain ⟨rfl, rfl, rfl⟩ := h'
    exact h5
/-- new memory that reads as zs, not nil -/
def FrN (E : TypeId) (zs : List Int) (w : World) : Ending → World → Prop := fun e w' => ∃ g cap, e = .returned (.slice (some ⟨g, 0, none⟩) zs.length cap) ∧ Own w' w.heap.size E (.slice (some ⟨g, 0, none⟩) zs.length cap) zs ∧ Below w.heap.size w w'
theorem FrN.of {E : TypeId} {zs : List Int} {w w' : World} {v : Value} (ho : Own w' w.heap.size E v zs) (hv : v ≠ .slice none 0 0) (hb : Below w.heap.size w w') : FrN E zs w (.returned v) w' := by
  rcases ho.forms with ⟨rfl, _⟩ | ⟨g, cap, rfl, _⟩
  · exact absurd rfl hv
  · exact ⟨g, cap, rfl, ho, hb⟩
/-- a call returns f v, v new memory that reads as zs, nil or not -/
def FrX (E : TypeId) (f : Value → Value) (zs : List Int) (w : World) : Ending → World → Prop := fun e w' => ∃ v, e = .returned (f v) ∧ Own w' w.heap.size E v zs ∧ Below w.heap.size w w'
theorem own_nil (w : World) (B : Nat) (E : TypeId) : Own w B E (.slice none 0 0) [] := World.ownsRow_nil _ _ _ _
theorem own_apart {w1 w2 : World} {B1 B2 : Nat} {E1 E2 : TypeId} {v1 v2 : Value} {z1 z2 : List Int} (h1 : Own w1 B1 E1 v1 z1) (h2 : Own w2 B2 E2 v2 z2) (h : w1.heap.size ≤ B2) : v1.ownBlock = none ∨ v1.ownBlock ≠ v2.ownBlock := by
  cases e1 : v1.ownBlock with
  | none => exact .inl rfl
  | some k =>
    refine .inr fun e => ?_
    have a := World.ownsRow.lt h1 k e1
    have b := World.ownsRow.lt h2 k e.symm
    omega
theorem apart_symm {a b : Option Nat} (h : a = none ∨ a ≠ b) : b = none ∨ b ≠ a := by
  rcases h with h | h
  · subst h
    cases b with
    | none => exact .inl rfl
    | some k => exact .inr (by simp)
  · exact .inr (Ne.symm h)
theorem Own.below_of {w w' : World} {B : Nat} {E : TypeId} {v : Value} {zs : List Int} (h : Own w B E v zs) {C : Nat} (hg : w.grownBy w' v.ownBlock) (hC : C ≤ B) (hs : C ≤ w.heap.size) : Below C w w' :=
  grown_below hg hs (fun k hk => Nat.le_trans hC (World.ownsRow.lt h k hk).1)
theorem Own.le {w : World} {B B' : Nat} {E : TypeId} {v : Value} {zs : List Int} (h : Own w B E v zs) (hb : B' ≤ B) : Own w B' E v zs := Joins.ownsRow_le h hb
/-- what an append of one element leaves -/
theorem below_append {w wr w1 : World} {B n : Nat} {E : TypeId} {v : Value} {xs : List Value} {o : Obj} (hb : Below B w wr) (ho : wr.ownsRow B E 1 v n xs) (hB : B ≤ wr.heap.size) (hg : (wr.alloc o).grownBy w1 v.ownBlock) : Below B w w1 :=
  (hb.alloc hB o).grown hg (by simp; omega) (fun k hk => (ho.lt k hk).1)
/-- one element more is written -/
theorem own_set {w : World} {B : Nat} {E : TypeId} {g n cap : Nat} {zs : List Int} (h : Own w B E (.slice (some ⟨g, 0, none⟩) n cap) zs) (j : Nat) (u : Int) :
    Own (w.setCell ⟨g, j, none⟩ (.int .i64 u)) B E (.slice (some ⟨g, 0, none⟩) n cap) (zs.set j u) := by
  have hl := (Own.at h).1
  subst hl
  have := (World.ownsRow.stored (show w.ownsRow B E 1 _ _ _ from h) j (.int .i64 u)).1
  unfold Own
  rw [List.length_set, List.map_set]
  exact this
theorem own_facts {w : World} {B : Nat} {E : TypeId} {g n cap : Nat} {zs : List Int} (h : Own w B E (.slice (some ⟨g, 0, none⟩) n cap) zs) (j : Nat) : (j < n → w.cell? ⟨g, j, none⟩ = some (.int .i64 (el zs j))) ∧ w.frozen? ⟨g, j, none⟩ = false := by
  have hl := (Own.at h).1
  subst hl
  refine ⟨fun hj => ?_, World.ownsRow.frozenAt (show w.ownsRow B E 1 _ _ _ from h) j⟩
  have := (Own.at h).2.2.2.1 j hj
  rwa [Nat.zero_add] at this
/-- numbers from k on, ascending -/
def upFrom (k : Int) (n : Nat) : List Int := (List.range n).map fun (i : Nat) => k + i
theorem upFrom_length (k : Int) (n : Nat) : (upFrom k n).length = n := by simp [upFrom]
theorem upFrom_el {k : Int} {n i : Nat} (h : i < n) : el (upFrom k n) i = k + i := by rw [el_get (by rw [upFrom_length]; exact h)]; simp [upFrom]
theorem upFrom_step (k : Int) (j n : Nat) (zs : List Int) (hn : zs.length = n) (h : j < n) : (upFrom k j ++ zs.drop j).set j (k + j) = upFrom k (j + 1) ++ zs.drop (j + 1) := by
  rw [List.set_append_right _ _ (by rw [upFrom_length]; exact Nat.le_refl _), upFrom_length, Nat.sub_self, List.drop_eq_getElem_cons (by omega : j < zs.length), List.set_cons_zero]
  simp [upFrom, List.range_succ]
theorem upFrom_done (k : Int) (j n : Nat) (zs : List Int) (hn : zs.length = n) (h : j ≤ n) (h' : ¬ j < n) : upFrom k j ++ zs.drop j = upFrom k n := by
  obtain rfl : j = n := by omega
  rw [List.drop_of_length_le (by omega), List.append_nil]
end Go.Proofs.Ytjanjaabcinkiaa
