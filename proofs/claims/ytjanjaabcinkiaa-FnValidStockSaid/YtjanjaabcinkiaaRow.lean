/- Slices of structs, by their flat cells: what a walk says of them; no statement is proved here. -/
import Derived.Test.YtjanjaabcinkiaaInts
import Derived.Deep.Slices
namespace Go.Proofs.Ytjanjaabcinkiaa
open Go.ChangeShapes Go.WideShapes Go.ChangeAt Go.RowKit Go.Deep
set_option linter.unusedVariables false
set_option linter.unusedSimpArgs false

theorem below_und {B : Nat} {w w' : World} (h : Below B w.drew w') : Below B w w' := ⟨h.os, h.tape, h.output, h.size, h.block⟩
/-- n structs of m cells at b, off: cell j of struct i is f i j -/
structure RSl (w : World) (b off n cap m : Nat) (f : Nat → Nat → Value) : Prop where
  small : n ≤ 1048576
  cap1 : n ≤ cap
  cap2 : cap ≤ maxLen
  lt : b < w.heap.size
  cell : ∀ i j, i < n → j < m → w.cell? ⟨b, off + i * m + j, none⟩ = some (f i j)
theorem RSl.below {W w : World} {b off n cap m : Nat} {f : Nat → Nat → Value} (h : RSl W b off n cap m f) (hb : Below W.heap.size W w) : RSl w b off n cap m f :=
  ⟨h.small, h.cap1, h.cap2, Nat.lt_of_lt_of_le h.lt hb.size, fun i j hi hj => (hb.cell (p := ⟨b, off + i * m + j, none⟩) h.lt).trans (h.cell i j hi hj)⟩
theorem RSl.set {w : World} {b off n cap m : Nat} {f : Nat → Nat → Value} (h : RSl w b off n cap m f) {g : Nat} (hne : g ≠ b) (o : Nat) (u : Value) : RSl (w.setCell ⟨g, o, none⟩ u) b off n cap m f :=
  ⟨h.small, h.cap1, h.cap2, by simpa [World.setCell] using h.lt, fun i j hi hj => (World.cell?_setCell_far w ⟨g, o, none⟩ ⟨b, off + i * m + j, none⟩ u hne).trans (h.cell i j hi hj)⟩
/-- the same as an argument, nil or not -/
def RISl (w : World) (v : Value) (n m : Nat) (f : Nat → Nat → Value) : Prop := ∃ p cap, v = .slice p n cap ∧ (0 < n → ∃ b off, p = some ⟨b, off, none⟩ ∧ RSl w b off n cap m f)
theorem RISl.below {W w : World} {v : Value} {n m : Nat} {f : Nat → Nat → Value} (h : RISl W v n m f) (hb : Below W.heap.size W w) : RISl w v n m f := by
  obtain ⟨p, cap, h1, h2⟩ := h
  refine ⟨p, cap, h1, fun h0 => ?_⟩
  obtain ⟨b, off, e, h5⟩ := h2 h0
  exact ⟨b, off, e, h5.below hb⟩
theorem RSl.isl {w : World} {b off n cap m : Nat} {f : Nat → Nat → Value} (h : RSl w b off n cap m f) : RISl w (.slice (some ⟨b, off, none⟩) n cap) n m f := ⟨_, _, rfl, fun _ => ⟨b, off, rfl, h⟩⟩
/-- as an argument of whatever length -/
def RRaw (W : World) (v : Value) (n m : Nat) (f : Nat → Nat → Value) : Prop := ∃ pp cap, v = .slice pp n cap ∧ n ≤ maxLen ∧ (0 < n → ∃ b off, pp = some ⟨b, off, none⟩ ∧ n ≤ cap ∧ cap ≤ maxLen ∧ b < W.heap.size ∧
      ∀ i j, i < n → j < m → W.cell? ⟨b, off + i * m + j, none⟩ = some (f i j))
theorem RRaw.isl {W : World} {v : Value} {n m : Nat} {f : Nat → Nat → Value} (h : RRaw W v n m f) (hn : n ≤ 1048576) : RISl W v n m f := by
  obtain ⟨pp, cap, h1, _, h4⟩ := h
  refine ⟨pp, cap, h1, fun h0 => ?_⟩
  obtain ⟨b, off, e, a1, a2, a3, a4⟩ := h4 h0
  exact ⟨b, off, e, ⟨hn, a1, a2, a3, a4⟩⟩
theorem RRaw.congr {W : World} {v : Value} {n m : Nat} {f g : Nat → Nat → Value} (h : RRaw W v n m f) (he : ∀ i j, i < n → j < m → f i j = g i j) : RRaw W v n m g := by
  obtain ⟨pp, cap, h1, h2, h4⟩ := h
  refine ⟨pp, cap, h1, h2, fun h0 => ?_⟩
  obtain ⟨b, off, e, a1, a2, a3, a4⟩ := h4 h0
  exact ⟨b, off, e, a1, a2, a3, fun i j hi hj => by rw [a4 i j hi hj, he i j hi hj]⟩
/-- a row of structs of the call's own, its first q cells written -/
def RRow (w : World) (B g n m : Nat) (E : TypeId) (q : Nat) (f : Nat → Nat → Value) : Prop := ∃ xs : List Value, w.ownsRow B E m (.slice (some ⟨g, 0, none⟩) n n) n xs ∧ xs.length = n * m ∧ ∀ i j, i * m + j < q → i < n → j < m → xs[i * m + j]? = some (f i j)
theorem RRow.below {W w : World} {B g n m q : Nat} {E : TypeId} {f : Nat → Nat → Value} (h : RRow W B g n m E q f) (hb : Below W.heap.size W w) : RRow w B g n m E q f := by
  obtain ⟨xs, h1, h2, h3⟩ := h
  exact ⟨xs, own_below h1 hb, h2, h3⟩
theorem RRow.old {w : World} {B g n m q : Nat} {E : TypeId} {f : Nat → Nat → Value} (h : RRow w B g n m E q f) {j : Nat} (hj : j < n * m) : (∃ u, w.cell? ⟨g, j, none⟩ = some u) ∧ w.frozen? ⟨g, j, none⟩ = false := by
  obtain ⟨xs, h1, h2, h3⟩ := h
  refine ⟨?_, h1.frozenAt j⟩
  rw [h1.cellAt j hj]
  exact ⟨_, List.getElem?_eq_getElem (by omega)⟩
theorem flat_lt {n m k j : Nat} (hk : k < n) (hj : j < m) : k * m + j < n * m := by
  have : (k + 1) * m ≤ n * m := Nat.mul_le_mul_right m hk
  rw [Nat.succ_mul] at this
  omega
theorem flat_inj {m i j i' j' : Nat} (h : i * m + j = i' * m + j') (hj : j < m) (hj' : j' < m) : i = i' ∧ j = j' := by
  rcases Nat.lt_trichotomy i i' with e | e | e
  · have := flat_lt (n := i') e hj; omega
  · subst e; exact ⟨rfl, by omega⟩
  · have := flat_lt (n := i) e hj'; omega
theorem RRow.put1 {w : World} {B g n m k j : Nat} {E : TypeId} {f : Nat → Nat → Value} (h : RRow w B g n m E (k * m + j) f) (hk : k < n) (hj : j < m) : RRow (w.setCell ⟨g, k * m + j, none⟩ (f k j)) B g n m E (k * m + j + 1) f := by
  obtain ⟨xs, h1, h2, h3⟩ := h
  refine ⟨xs.set (k * m + j) (f k j), (h1.stored (k * m + j) _).1, by simp [h2], fun i j' hq hi hj' => ?_⟩
  rw [List.getElem?_set]
  by_cases e : k * m + j = i * m + j'
  · obtain ⟨rfl, rfl⟩ := flat_inj e hj hj'
    rw [if_pos rfl, if_pos (by rw [h2]; exact flat_lt hk hj)]
  · rw [if_neg e]
    exact h3 i j' (by omega) hi hj'
theorem RRow.put' {w : World} {B g n m q o k j : Nat} {E : TypeId} {f : Nat → Nat → Value} {u : Value} (h : RRow w B g n m E q f) (hq : q = k * m + j) (ho : o = k * m + j) (hu : u = f k j) (hk : k < n) (hj : j < m) : RRow (w.setCell ⟨g, o, none⟩ u) B g n m E (q + 1) f := by
  subst hq ho hu
  exact h.put1 hk hj
theorem RRow.q {w : World} {B g n m q q' : Nat} {E : TypeId} {f : Nat → Nat → Value} (h : RRow w B g n m E q f) (e : q = q') : RRow w B g n m E q' f := e ▸ h
theorem RRow.sl {w : World} {B g n m : Nat} {E : TypeId} {f : Nat → Nat → Value} (h : RRow w B g n m E (n * m) f) (hn : n ≤ 1048576) : RSl w g 0 n n m f := by
  obtain ⟨xs, o1, o2, o3⟩ := h
  refine ⟨hn, Nat.le_refl _, by unfold maxLen; omega, (World.ownsRow.lt o1 g rfl).2, fun i j hi hj => ?_⟩
  rw [Nat.zero_add, o1.cellAt _ (flat_lt hi hj)]; exact o3 i j (flat_lt hi hj) hi hj
theorem RRow.of {w : World} {B g n m : Nat} {E : TypeId} {xs : List Value} (f : Nat → Nat → Value) (h : w.ownsRow B E m (.slice (some ⟨g, 0, none⟩) n n) n xs) (hl : xs.length = n * m) : RRow w B g n m E 0 f := ⟨xs, h, hl, fun i j hq => by omega⟩
/-- a call returns new memory that reads as the structs -/
def FrR (n m : Nat) (f : Nat → Nat → Value) (w : World) : Ending → World → Prop := fun e w' => ∃ g, e = .returned (.slice (some ⟨g, 0, none⟩) n n) ∧ w.heap.size ≤ g ∧ RSl w' g 0 n n m f ∧ Below w.heap.size w w'

section
variable {H : Type} {enc : TypeId × Value → H} {P : Program} {w : World} {base : Nat} {spare : Nat → Bool} {held : Bool}
theorem drop_take_one {α : Type} (cs : List α) (j : Nat) (hj : j < cs.length) : (cs.drop j).take 1 = [cs[j]] := by
  rw [List.drop_eq_getElem_cons hj]; rfl
theorem struct_field {e : TypeId} {fs : Array Field} {k : Nat} {cs : List Value} {x : DataW H × List MemPlace} (he : P.underlying e = some (.struct fs)) (h : DataW.trod enc P w base spare held k e cs = some x) {q : Nat} {f : Field} (hf : fs[q]? = some f) :
    ∃ n y, DataW.trod enc P w base spare held n f.type ((cs.drop f.offset).take (P.cellsOf f.type)) = some y := by
  obtain ⟨xs, n, _, _, _, hxl, hx⟩ := DataW.trod_struct he h
  have := hx q f hf
  have hq : q < fs.size := (Array.getElem?_eq_some_iff.1 hf).1
  rw [List.getElem?_eq_getElem (by omega)] at this
  exact ⟨n, _, this⟩
theorem struct_at {e : TypeId} {fs : Array Field} {k : Nat} {cs : List Value} {x : DataW H × List MemPlace} (he : P.underlying e = some (.struct fs)) (h : DataW.trod enc P w base spare held k e cs = some x) {q o k' : Nat} {ty : TypeId} {f : Field} (hf : fs[q]? = some f) (ho : f.offset = o) (ht : f.type = ty) (hc : P.cellsOf ty = k') :
    ∃ n y, DataW.trod enc P w base spare held n ty ((cs.drop o).take k') = some y := by
  obtain ⟨n, y, h1⟩ := struct_field he h hf
  subst ho ht hc
  exact ⟨n, y, h1⟩
theorem struct_int {e : TypeId} {fs : Array Field} {k : Nat} {cs : List Value} {x : DataW H × List MemPlace} (he : P.underlying e = some (.struct fs)) (h : DataW.trod enc P w base spare held k e cs = some x) {q j : Nat} {f : Field} (hf : fs[q]? = some f) (ho : f.offset = j) (hc : P.cellsOf f.type = 1)
    (u : P.underlying f.type = some (.int .i64)) (hj : j < cs.length) : ∃ z, cs[j]? = some (.int .i64 z) := by
  obtain ⟨n, y, h1⟩ := struct_field he h hf
  rw [ho, hc, drop_take_one _ _ hj] at h1
  obtain ⟨z, gz, _, _⟩ := DataW.trod_int u h1
  exact ⟨z, by rw [List.getElem?_eq_getElem hj]; exact congrArg some (List.cons.inj gz).1⟩
theorem struct_bool {e : TypeId} {fs : Array Field} {k : Nat} {cs : List Value} {x : DataW H × List MemPlace} (he : P.underlying e = some (.struct fs)) (h : DataW.trod enc P w base spare held k e cs = some x) {q j : Nat} {f : Field} (hf : fs[q]? = some f) (ho : f.offset = j) (hc : P.cellsOf f.type = 1)
    (u : P.underlying f.type = some .bool) (hj : j < cs.length) : ∃ z, cs[j]? = some (.bool z) := by
  obtain ⟨n, y, h1⟩ := struct_field he h hf
  rw [ho, hc, drop_take_one _ _ hj] at h1
  obtain ⟨z, gz, _⟩ := DataW.trod_bool u h1
  exact ⟨z, by rw [List.getElem?_eq_getElem hj]; exact congrArg some (List.cons.inj gz).1⟩
theorem cell_lt {w : World} {b o : Nat} {v : Value} (h : w.cell? ⟨b, o, none⟩ = some v) : b < w.heap.size := by
  apply Nat.lt_of_not_le
  intro hle
  unfold World.cell? at h
  rw [Array.getElem?_eq_none hle] at h
  simp at h
/-- a slice of structs that a law was handed, opened: each element's cells, and that they read as the struct -/
theorem open_rraw {W : World} {t e : TypeId} {m fuel : Nat} {v : Value} {x : DataW H × List MemPlace} (ht : P.underlying t = some (.slice e)) (ce : P.cellsOf e = m) (hm0 : 0 < m)
    (h : DataW.trod enc P W 0 (fun _ => true) true fuel t [v] = some x) :
    ∃ (n : Nat) (C : Nat → List Value), RRaw W v n m (fun i j => (C i).getD j (.bool false)) ∧ ∀ i, i < n → (C i).length = m ∧ ∃ k y, DataW.trod enc P W 0 (fun _ => true) true k e (C i) = some y := by
  rcases open_slice ht h with ⟨hcs, hx⟩ | ⟨a, len, cap, m', n, D, Pl, hcs, _, hl, hm, hmm, hx, hi⟩
  · simp at hcs
    subst hcs
    exact ⟨0, fun _ => [], ⟨none, 0, rfl, by unfold maxLen; omega, fun h => by omega⟩, fun i hi => by omega⟩
  · simp at hcs
    subst hcs
    have hlm : len ≤ m' := by rw [hmm]; split <;> omega
    obtain ⟨C, hC⟩ := choose_lt (α := List Value) (n := len) (p := fun i cs => W.cells? 0 (a.add (i * P.cellsOf e)) (P.cellsOf e) = some cs ∧ DataW.trod enc P W 0 (fun _ => true) true n e cs = some (D i, Pl i)) (fun i hil => hi i (by omega))
    have hlen : ∀ i, i < len → (C i).length = m := fun i hil => by
      obtain ⟨_, h2, _⟩ := World.cells?_some (hC i hil).1
      rw [h2, ce]
    have hcell : ∀ i j, i < len → j < m → W.cell? (a.add (i * m + j)) = some ((C i).getD j (.bool false)) := fun i j hil hj => by
      obtain ⟨_, h2, h3⟩ := World.cells?_some (hC i hil).1
      have := h3 j (by omega)
      rw [add_add, ce] at this
      rw [this]
      have hj' : j < (C i).length := by rw [hlen i hil]; exact hj
      simp [List.getD, hj']
    refine ⟨len, C, ⟨some a, cap, rfl, by omega, fun h0 => ?_⟩, fun i hil => ⟨hlen i hil, n, _, (hC i hil).2⟩⟩
    obtain ⟨b, off, spot⟩ := a
    have hc0 := hcell 0 0 h0 hm0
    have hspot : spot = none := by simpa [Addr.add] using World.cell?_spot hc0
    subst hspot
    refine ⟨b, off, rfl, hl, hm, ?_, fun i j hil hj => ?_⟩
    · rw [Go.WideShapes.add_plain] at hc0
      exact cell_lt hc0
    · have := hcell i j hil hj
      rw [Go.WideShapes.add_plain, ← Nat.add_assoc] at this
      exact this
end
/-- the first k are all right -/
def AllTo (p : Nat → Bool) (k : Nat) : Prop := ∀ i, i < k → p i = true
instance (p : Nat → Bool) (k : Nat) : Decidable (AllTo p k) := by unfold AllTo; infer_instance
theorem AllTo.zero (p : Nat → Bool) : AllTo p 0 := fun i hi => by omega
theorem AllTo.succ {p : Nat → Bool} {k : Nat} (h : AllTo p k) (hk : p k = true) : AllTo p (k + 1) := fun i hi => by
  rcases Nat.lt_succ_iff_lt_or_eq.1 hi with e | e
  · exact h i e
  · exact e ▸ hk
/-- at most M, all of them all right -/
@[irreducible] def allB (p : Nat → Bool) (M n : Nat) : Bool := decide (n ≤ M ∧ AllTo p n)
theorem allB_iff {p : Nat → Bool} {M n : Nat} : allB p M n = true ↔ n ≤ M ∧ AllTo p n := by unfold allB; simp
theorem allB_no {p : Nat → Bool} {M n : Nat} (h : ¬ (n ≤ M ∧ AllTo p n)) : allB p M n = false := by unfold allB; exact decide_eq_false h
theorem allB_bad {p : Nat → Bool} {M n k : Nat} (hk : k < n) (h : p k = false) : allB p M n = false := allB_no (fun hh => by have := hh.2 k hk; rw [h] at this; cases this)
theorem allB_many {p : Nat → Bool} {M n : Nat} (h : ¬ n ≤ M) : allB p M n = false := allB_no (fun hh => h hh.1)
end Go.Proofs.Ytjanjaabcinkiaa
