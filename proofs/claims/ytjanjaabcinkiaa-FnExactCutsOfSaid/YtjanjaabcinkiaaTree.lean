/- Trees of plans: what a slice of kids reads as; no statement is proved here. -/
import Derived.Test.YtjanjaabcinkiaaRow
namespace Go.Proofs.Ytjanjaabcinkiaa
open Go.ChangeShapes Go.WideShapes Go.ChangeAt Go.RowKit Go.Deep
set_option linter.unusedVariables false
set_option linter.unusedSimpArgs false

inductive Pl where
  | nil : Pl
  | node (op pos pane : Int) (tu : Bool) (n : Nat) (kids : Nat → Pl) : Pl
instance : Inhabited Pl := ⟨.nil⟩
def Pl.op : Pl → Int | .nil => 0 | .node o _ _ _ _ _ => o
def Pl.pos : Pl → Int | .nil => 0 | .node _ o _ _ _ _ => o
def Pl.pane : Pl → Int | .nil => 0 | .node _ _ o _ _ _ => o
def Pl.tu : Pl → Bool | .nil => false | .node _ _ _ o _ _ => o
def Pl.n : Pl → Nat | .nil => 0 | .node _ _ _ _ n _ => n
def Pl.kid : Pl → Nat → Pl | .nil => fun _ => .nil | .node _ _ _ _ _ k => k
/-- the value reads as the kids of the tree; all its blocks lie at B and above -/
def KT (B : Nat) (w : World) : Pl → Value → Prop
  | .nil, _ => False
  | .node _ _ _ _ n k, v => n ≤ maxLen ∧ ∃ p cap, v = .slice p n cap ∧ (0 < n → ∃ b off, p = some ⟨b, off, none⟩ ∧ B ≤ b ∧ b < w.heap.size ∧ n ≤ cap ∧ cap ≤ maxLen ∧
      ∀ i, i < n → ∃ kv, KT B w (k i) kv ∧ w.cell? ⟨b, off + i * 5, none⟩ = some (.int .i64 ((k i).op)) ∧ w.cell? ⟨b, off + i * 5 + 1, none⟩ = some (.int .i64 ((k i).pos)) ∧ w.cell? ⟨b, off + i * 5 + 2, none⟩ = some (.int .i64 ((k i).pane)) ∧ w.cell? ⟨b, off + i * 5 + 3, none⟩ = some (.bool (k i).tu) ∧ w.cell? ⟨b, off + i * 5 + 4, none⟩ = some kv)
theorem KT.below {B : Nat} {W w : World} (hb : Below W.heap.size W w) : ∀ (t : Pl) (v : Value), KT B W t v → KT B w t v
  | .nil, v, h => h.elim
  | .node _ _ _ _ n k, v, h => by
    obtain ⟨h1, p, cap, rfl, h2⟩ := h
    refine ⟨h1, p, cap, rfl, fun h0 => ?_⟩
    obtain ⟨b, off, e, g1, g2, g3, g4, g5⟩ := h2 h0
    refine ⟨b, off, e, g1, Nat.lt_of_lt_of_le g2 hb.size, g3, g4, fun i hi => ?_⟩
    obtain ⟨kv, q, c0, c1, c2, c3, c4⟩ := g5 i hi
    exact ⟨kv, KT.below hb (k i) kv q, (hb.cell (p := ⟨b, _, none⟩) g2).trans c0, (hb.cell (p := ⟨b, _, none⟩) g2).trans c1, (hb.cell (p := ⟨b, _, none⟩) g2).trans c2, (hb.cell (p := ⟨b, _, none⟩) g2).trans c3, (hb.cell (p := ⟨b, _, none⟩) g2).trans c4⟩
theorem KT.le {B B' : Nat} {w : World} (hb : B' ≤ B) : ∀ (t : Pl) (v : Value), KT B w t v → KT B' w t v
  | .nil, v, h => h.elim
  | .node _ _ _ _ n k, v, h => by
    obtain ⟨h1, p, cap, rfl, h2⟩ := h
    refine ⟨h1, p, cap, rfl, fun h0 => ?_⟩
    obtain ⟨b, off, e, g1, g2, g3, g4, g5⟩ := h2 h0
    refine ⟨b, off, e, Nat.le_trans hb g1, g2, g3, g4, fun i hi => ?_⟩
    obtain ⟨kv, q, c0, c1, c2, c3, c4⟩ := g5 i hi
    exact ⟨kv, KT.le hb (k i) kv q, c0, c1, c2, c3, c4⟩
/-- a store below the blocks of the tree leaves it -/
theorem KT.set {B : Nat} {w : World} {g : Nat} (hg : g < B) (o : Nat) (u : Value) : ∀ (t : Pl) (v : Value), KT B w t v → KT B (w.setCell ⟨g, o, none⟩ u) t v
  | .nil, v, h => h.elim
  | .node _ _ _ _ n k, v, h => by
    obtain ⟨h1, p, cap, rfl, h2⟩ := h
    refine ⟨h1, p, cap, rfl, fun h0 => ?_⟩
    obtain ⟨b, off, e, g1, g2, g3, g4, g5⟩ := h2 h0
    refine ⟨b, off, e, g1, by simpa [World.setCell] using g2, g3, g4, fun i hi => ?_⟩
    obtain ⟨kv, q, c0, c1, c2, c3, c4⟩ := g5 i hi
    have hne : g ≠ b := by omega
    have F := fun o' => World.cell?_setCell_far w ⟨g, o, none⟩ ⟨b, o', none⟩ u hne
    exact ⟨kv, KT.set hg o u (k i) kv q, (F _).trans c0, (F _).trans c1, (F _).trans c2, (F _).trans c3, (F _).trans c4⟩
theorem KT.form {B : Nat} {w : World} {t : Pl} {v : Value} (h : KT B w t v) : t.n ≤ maxLen ∧ ∃ p cap, v = .slice p t.n cap ∧ (0 < t.n → ∃ b off, p = some ⟨b, off, none⟩ ∧ B ≤ b ∧ b < w.heap.size ∧ t.n ≤ cap ∧ cap ≤ maxLen ∧
      ∀ i, i < t.n → ∃ kv, KT B w (t.kid i) kv ∧ w.cell? ⟨b, off + i * 5, none⟩ = some (.int .i64 ((t.kid i).op)) ∧ w.cell? ⟨b, off + i * 5 + 1, none⟩ = some (.int .i64 ((t.kid i).pos)) ∧ w.cell? ⟨b, off + i * 5 + 2, none⟩ = some (.int .i64 ((t.kid i).pane)) ∧ w.cell? ⟨b, off + i * 5 + 3, none⟩ = some (.bool (t.kid i).tu) ∧ w.cell? ⟨b, off + i * 5 + 4, none⟩ = some kv) := by
  cases t with
  | nil => exact h.elim
  | node _ _ _ _ n k => exact h
/-- a row of kids, cell by cell; kv: the values of the kids' own kids -/
def planF (t : Pl) (kv : Nat → Value) (i j : Nat) : Value := match j with | 0 => (.int .i64 ((t.kid i).op)) | 1 => (.int .i64 ((t.kid i).pos)) | 2 => (.int .i64 ((t.kid i).pane)) | 3 => .bool (t.kid i).tu | _ => kv i
theorem plan_cells {w : World} {b off n cap : Nat} {t : Pl} {kv : Nat → Value} (h : RSl w b off n cap 5 (planF t kv)) {i : Nat} (hi : i < n) : w.cell? ⟨b, off + i * 5, none⟩ = some (.int .i64 ((t.kid i).op)) ∧ w.cell? ⟨b, off + i * 5 + 1, none⟩ = some (.int .i64 ((t.kid i).pos)) ∧ w.cell? ⟨b, off + i * 5 + 2, none⟩ = some (.int .i64 ((t.kid i).pane)) ∧ w.cell? ⟨b, off + i * 5 + 3, none⟩ = some (.bool (t.kid i).tu) ∧ w.cell? ⟨b, off + i * 5 + 4, none⟩ = some (kv i) :=
  ⟨h.cell i 0 hi (by omega), h.cell i 1 hi (by omega), h.cell i 2 hi (by omega), h.cell i 3 hi (by omega), h.cell i 4 hi (by omega)⟩
theorem plan_put {w : World} {B g n k : Nat} {E : TypeId} {t : Pl} {kv : Nat → Value} (h : RRow w B g n 5 E (k * 5) (planF t kv)) (hk : k < n) : RRow (((((w.setCell ⟨g, k * 5, none⟩ (.int .i64 ((t.kid k).op))).setCell ⟨g, k * 5 + 1, none⟩ (.int .i64 ((t.kid k).pos))).setCell ⟨g, k * 5 + 2, none⟩ (.int .i64 ((t.kid k).pane))).setCell ⟨g, k * 5 + 3, none⟩ (.bool (t.kid k).tu)).setCell ⟨g, k * 5 + 4, none⟩ (kv k)) B g n 5 E ((k + 1) * 5) (planF t kv) :=
  RRow.q (RRow.put' (k := k) (j := 4) (RRow.put' (k := k) (j := 3) (RRow.put' (k := k) (j := 2) (RRow.put' (k := k) (j := 1) (RRow.put' (k := k) (j := 0) h (by omega) (by omega) rfl hk (by omega)) (by omega) (by omega) rfl hk (by omega)) (by omega) (by omega) rfl hk (by omega)) (by omega) (by omega) rfl hk (by omega)) (by omega) (by omega) rfl hk (by omega)) (by omega)
theorem RRow.re {w : World} {B g n m q : Nat} {E : TypeId} {f f' : Nat → Nat → Value} (h : RRow w B g n m E q f) (he : ∀ i j, i * m + j < q → i < n → j < m → f i j = f' i j) : RRow w B g n m E q f' := by
  obtain ⟨xs, h1, h2, h3⟩ := h
  exact ⟨xs, h1, h2, fun i j hq hi hj => by rw [h3 i j hq hi hj, he i j hq hi hj]⟩
/-- another value for the kids of kid k, not yet written -/
theorem plan_re {w : World} {B g n k : Nat} {E : TypeId} {t : Pl} {kv : Nat → Value} (h : RRow w B g n 5 E (k * 5) (planF t kv)) (u : Value) : RRow w B g n 5 E (k * 5) (planF t (fun i => if i = k then u else kv i)) := by
  refine h.re fun i j hq hi hj => ?_
  have hne : i ≠ k := by intro e; subst e; omega
  match j, hj with
  | 0, _ => rfl
  | 1, _ => rfl
  | 2, _ => rfl
  | 3, _ => rfl
  | 4, _ => show kv i = if i = k then u else kv i; rw [if_neg hne]
theorem KT.rsl {B : Nat} {w : World} {t : Pl} {v : Value} (h : KT B w t v) (hn : t.n ≤ 1048576) : ∃ p cap kv, v = .slice p t.n cap ∧ (∀ i, i < t.n → KT B w (t.kid i) (kv i)) ∧ ∀ i, i < t.n → ∃ b off, p = some ⟨b, off, none⟩ ∧ B ≤ b ∧ RSl w b off t.n cap 5 (planF t kv) := by
  obtain ⟨h1, p, cap, rfl, h2⟩ := h.form
  by_cases h0 : 0 < t.n
  · obtain ⟨b, off, rfl, g1, g2, g3, g4, g5⟩ := h2 h0
    obtain ⟨kv, hkv⟩ := choose_lt (α := Value) (n := t.n) g5
    refine ⟨_, cap, kv, rfl, fun i hi => (hkv i hi).1, fun i _ => ⟨b, off, rfl, g1, hn, g3, g4, g2, fun i j hi hj => ?_⟩⟩
    obtain ⟨_, c0, c1, c2, c3, c4⟩ := hkv i hi
    match j, hj with
    | 0, _ => exact c0
    | 1, _ => exact c1
    | 2, _ => exact c2
    | 3, _ => exact c3
    | 4, _ => exact c4
  · exact ⟨p, cap, fun _ => .bool false, rfl, fun i hi => absurd hi (by omega), fun i hi => absurd hi (by omega)⟩
theorem KT.node {B : Nat} {w : World} {t : Pl} {v : Value} (h : KT B w t v) : t ≠ .nil := by
  intro e; subst e; exact h.elim
theorem KT.mk {B : Nat} {w : World} {t : Pl} (ht : t ≠ .nil) {b off cap : Nat} {kv : Nat → Value} (hb : B ≤ b) (hr : RSl w b off t.n cap 5 (planF t kv)) (hk : ∀ i, i < t.n → KT B w (t.kid i) (kv i)) : KT B w t (.slice (some ⟨b, off, none⟩) t.n cap) := by
  cases t with
  | nil => exact absurd rfl ht
  | node op pos pane tu n k =>
    refine ⟨Nat.le_trans hr.cap1 hr.cap2, _, cap, rfl, fun _ => ⟨b, off, rfl, hb, hr.lt, hr.cap1, hr.cap2, fun i hi => ?_⟩⟩
    obtain ⟨c0, c1, c2, c3, c4⟩ := plan_cells hr hi
    exact ⟨kv i, hk i hi, c0, c1, c2, c3, c4⟩
def sumTo (f : Nat → Nat) : Nat → Nat
  | 0 => 0
  | n + 1 => sumTo f n + f n
theorem sumTo_mono (f : Nat → Nat) {m n : Nat} (h : m ≤ n) : sumTo f m ≤ sumTo f n := by
  induction n with
  | zero => have : m = 0 := by omega
            subst this; exact Nat.le_refl _
  | succ n ih =>
    rcases Nat.lt_or_ge n m with e | e
    · have : m = n + 1 := by omega
      subst this; exact Nat.le_refl _
    · exact Nat.le_trans (ih e) (Nat.le_add_right _ _)
theorem sumTo_at (f : Nat → Nat) {i n : Nat} (h : i < n) : f i ≤ sumTo f n := Nat.le_trans (Nat.le_add_left _ _) (sumTo_mono f (m := i + 1) h)
/-- how many plans lie below -/
def Pl.sz : Pl → Nat
  | .nil => 0
  | .node _ _ _ _ n k => n + sumTo (fun i => (k i).sz) n
theorem Pl.sz_eq (t : Pl) : t.sz = t.n + sumTo (fun i => (t.kid i).sz) t.n := by
  cases t with
  | nil => rfl
  | node _ _ _ _ n k => rfl
theorem Pl.sz_n (t : Pl) : t.n ≤ t.sz := by rw [t.sz_eq]; omega
theorem Pl.sz_kid (t : Pl) {i : Nat} (h : i < t.n) : (t.kid i).sz ≤ t.sz := by
  have := sumTo_at (fun i => (t.kid i).sz) h
  rw [t.sz_eq]; omega
theorem Pl.ind {P : Pl → Prop} (h : ∀ t, (∀ i, i < t.n → P (t.kid i)) → P t) : ∀ t, P t := by
  intro t
  induction t with
  | nil => exact h _ (fun i hi => absurd hi (Nat.not_lt_zero _))
  | node op pos pane tu n k ih => exact h _ (fun i _ => ih i)
section
variable {H : Type} {enc : TypeId × Value → H}
theorem getD_of_some {cs : List Value} {j : Nat} {u : Value} (h : cs[j]? = some u) (d : Value) : cs.getD j d = u := by simp [List.getD, h]
theorem five_list {cs : List Value} (h : cs.length = 5) : ∃ c0 c1 c2 c3 c4, cs = [c0, c1, c2, c3, c4] := by
  match cs, h with
  | [c0, c1, c2, c3, c4], _ => exact ⟨c0, c1, c2, c3, c4, rfl⟩
/-- a plan that a law was handed, opened -/
theorem open_plan {W : World} : ∀ (fuel : Nat) (cs : List Value) (x : DataW H × List MemPlace), DataW.trod enc Try.prog W 0 (fun _ => true) true fuel 24 cs = some x →
    ∃ (t : Pl) (kv : Value), cs = [(.int .i64 t.op), (.int .i64 t.pos), (.int .i64 t.pane), .bool t.tu, kv] ∧ KT 0 W t kv := by
  intro fuel
  induction fuel using Nat.strongRecOn with
  | ind fuel ih =>
    intro cs x h
    obtain ⟨xs, n, hfu, _, hl, hxl, hx⟩ := DataW.trod_struct Try.underlying24 h
    have hlen : cs.length = 5 := by rw [hl]; kernel_rfl
    obtain ⟨z0, h0⟩ := struct_int Try.underlying24 h (q := 0) (j := 0) rfl rfl (by kernel_rfl) Try.underlying3 (by omega)
    obtain ⟨z1, h1⟩ := struct_int Try.underlying24 h (q := 1) (j := 1) rfl rfl (by kernel_rfl) Try.underlying3 (by omega)
    obtain ⟨z2, h2⟩ := struct_int Try.underlying24 h (q := 2) (j := 2) rfl rfl (by kernel_rfl) Try.underlying3 (by omega)
    obtain ⟨z3, h3⟩ := struct_bool Try.underlying24 h (q := 3) (j := 3) rfl rfl (by kernel_rfl) Try.underlying4 (by omega)
    obtain ⟨c0, c1, c2, c3, c4, rfl⟩ : ∃ c0 c1 c2 c3 c4, cs = [c0, c1, c2, c3, c4] := five_list hlen
    simp only [List.getElem?_cons_zero, List.getElem?_cons_succ, Option.some.injEq] at h0 h1 h2 h3
    subst h0 h1 h2 h3
    have hk := hx 4 _ rfl
    have hc1 : Try.prog.cellsOf 22 = 1 := by kernel_rfl
    have hk' : DataW.trod enc Try.prog W 0 (fun _ => true) true n 22 [c4] = xs[4]? := by
      have e : ([.int .i64 z0, .int .i64 z1, .int .i64 z2, .bool z3, c4].drop 4).take (Try.prog.cellsOf 22) = [c4] := by rw [hc1]; rfl
      rw [← e]; exact hk
    have hxs : xs.length = 5 := hxl
    rw [List.getElem?_eq_getElem (by omega)] at hk'
    rcases DataW.trod_slice Try.underlying22 hk' with ⟨hcs, _⟩ | ⟨a, len, cap, elems, rest, n', hn', hcs, _, _, hcap, hcm, hel, he, _, _⟩
    · simp only [List.cons.injEq, and_true] at hcs
      subst hcs
      exact ⟨.node z0 z1 z2 z3 0 (fun _ => .nil), _, rfl, Nat.zero_le _, none, 0, rfl, fun h => absurd h (Nat.lt_irrefl _)⟩
    · simp only [List.cons.injEq, and_true] at hcs
      subst hcs
      have hce : Try.prog.cellsOf 24 = 5 := by kernel_rfl
      rw [hce] at he
      obtain ⟨K, hK⟩ := choose_lt (α := Pl × Value × List Value) (n := len) (p := fun i y => W.cells? 0 (a.add (i * 5)) 5 = some y.2.2 ∧ y.2.2 = [(.int .i64 y.1.op), (.int .i64 y.1.pos), (.int .i64 y.1.pane), .bool y.1.tu, y.2.1] ∧ KT 0 W y.1 y.2.1) (fun i hi => by
        have e := he i hi
        rw [List.getElem?_eq_getElem (by omega)] at e
        obtain ⟨cs', hcs', htr⟩ := Option.bind_eq_some_iff.1 e
        obtain ⟨t, kv, e1, e2⟩ := ih n' (by omega) cs' _ htr
        exact ⟨(t, kv, cs'), hcs', e1, e2⟩)
      have hcell : ∀ i j, i < len → j < 5 → W.cell? (a.add (i * 5 + j)) = some ((K i).2.2.getD j (.bool false)) := fun i j hil hj => by
        obtain ⟨_, h2, h3⟩ := World.cells?_some (hK i hil).1
        have := h3 j (by omega)
        rw [add_add] at this
        rw [this]
        have hj' : j < (K i).2.2.length := by rw [h2]; exact hj
        simp [List.getD, hj']
      refine ⟨.node z0 z1 z2 z3 len (fun i => (K i).1), _, rfl, by omega, some a, cap, rfl, fun h0 => ?_⟩
      obtain ⟨b, off, spot⟩ := a
      have hc0 := hcell 0 0 h0 (by omega)
      have hspot : spot = none := by simpa [Addr.add] using World.cell?_spot hc0
      subst hspot
      refine ⟨b, off, rfl, Nat.zero_le _, ?_, hcap, hcm, fun i hi => ?_⟩
      · rw [Go.WideShapes.add_plain] at hc0
        exact cell_lt hc0
      · obtain ⟨_, k2, k3⟩ := hK i hi
        have F : ∀ j, j < 5 → W.cell? ⟨b, off + i * 5 + j, none⟩ = some ((K i).2.2.getD j (.bool false)) := fun j hj => by
          have := hcell i j hi hj
          rw [Go.WideShapes.add_plain, ← Nat.add_assoc] at this
          exact this
        rw [k2] at F
        exact ⟨(K i).2.1, k3, F 0 (by omega), F 1 (by omega), F 2 (by omega), F 3 (by omega), F 4 (by omega)⟩
end
end Go.Proofs.Ytjanjaabcinkiaa
