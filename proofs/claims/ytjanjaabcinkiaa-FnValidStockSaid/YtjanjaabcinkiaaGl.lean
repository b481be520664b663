/- Own rows of structs as lists, whatever the struct; no statement is proved here. -/
import Derived.Test.YtjanjaabcinkiaaRow
import Derived.Test.YtjanjaabcinkiaaGen
import Derived.Maps.AppendAt
import Derived.Deep.RegionLaw
namespace Go.Proofs.Ytjanjaabcinkiaa
open Go.ChangeShapes Go.WideShapes Go.ChangeAt Go.RowKit Go.Deep
set_option linter.unusedVariables false
set_option linter.unusedSimpArgs false

theorem gbO {a w w' : World} {row : Option Nat} {h : Nat} (hg : a.grownBy w row) (k : w.grownBy w' (some h)) (hh : a.heap.size ≤ h) : a.grownBy w' row :=
  ⟨k.os.trans hg.os, k.tape.trans hg.tape, k.output.trans hg.output, Nat.le_trans hg.size k.size, fun b hb hr => (k.block b (Nat.lt_of_lt_of_le hb hg.size) (by intro e; injection e with e; omega)).trans (hg.block b hb hr)⟩
theorem gbB {a w w' : World} {row : Option Nat} (h : a.grownBy w row) (hb : Below w.heap.size w w') : a.grownBy w' row :=
  gb_trans h ⟨hb.os, hb.tape, hb.output, hb.size, fun k hk _ => hb.block k hk⟩
/-- an append to a row of the call's own, as one step of a region that draws its order -/
theorem step_append_own {P : Program} {ops : Array Oper} {o : Oper} {a : Act} {w : World} {K : Act → World → Prop} {Q : Exit → Act → World → Prop} {F : Prop} (hg : o.guard = none) (s x : Operand) (t : TypeId)
    (ho : o.op = .call { callee := .builtin .append, args := #[s, x], argTypes := #[t, t] })
    (base : Nat) (e : TypeId) (i : TypeInfo) (z : Value) (size bytes : Nat) (ht : P.underlying t = some (.slice e)) (hi : P.info? e = some i) (hz : i.zero = some z)
    (hsize : i.size = size) (hby : i.bytes = bytes) (hzs : z.cells.size = size) (hsz : 0 < size)
    (v : Value) (n : Nat) (xs : List Value) (hs : a.eval s = v) (hown : w.ownsRow base e size v n xs)
    (ad : Addr) (m c : Nat) (news : List Value) (hx : a.eval x = .slice (some ad) m c) (hl : news.length = m * size) (hnews : ∀ j u, news[j]? = some u → w.cell? (ad.add j) = some u) (h1 : ∀ u ∈ news, u.oneCell' = true)
    (h63 : n + m ≤ maxLen) (hbytes : (n + m) * bytes ≤ 140737488355328) (hbase : base ≤ w.heap.size)
    (h : ∀ v' w', w'.ownsRow base e size v' (n + m) (xs ++ news) → w.grownBy w' v.ownBlock → (v' = .slice none 0 0 ↔ v = .slice none 0 0 ∧ m = 0) → K (a.put o.dst v') w') :
    if Region.wanted o (yielded ops a.tmps) = true then Oper.wp P o a w K Q else F := by
  have hw : Region.wanted o (yielded ops a.tmps) = true := by simp [Region.wanted, hg]
  rw [if_pos hw]
  exact wp_append_own w s x t ho base e i z size bytes ht hi hz hsize hby hzs hsz v n xs hs hown ad m c news hx hl hnews h1 h63 hbytes hbase h
section
variable {α : Type}
def flatG (K : α → List Value) : List α → List Value
  | [] => []
  | a :: xs => K a ++ flatG K xs
theorem flatG_len {K : α → List Value} {m : Nat} (hK : ∀ a, (K a).length = m) (xs : List α) : (flatG K xs).length = xs.length * m := by
  induction xs with
  | nil => simp [flatG]
  | cons a xs ih => simp only [flatG, List.length_append, ih, hK, List.length_cons, Nat.succ_mul]; omega
theorem flatG_app (K : α → List Value) (xs ys : List α) : flatG K (xs ++ ys) = flatG K xs ++ flatG K ys := by
  induction xs with
  | nil => rfl
  | cons a xs ih => simp [flatG, ih]
theorem flatG_one (K : α → List Value) (a : α) : flatG K [a] = K a := by simp [flatG]
theorem flatG_split (K : α → List Value) (xs : List α) (k : Nat) : flatG K xs = flatG K (xs.take k) ++ flatG K (xs.drop k) := by
  rw [← flatG_app, List.take_append_drop]
theorem flatG_at {K : α → List Value} {m : Nat} (hK : ∀ a, (K a).length = m) {xs : List α} {i j : Nat} (hi : i < xs.length) (hj : j < m) : (flatG K xs)[i * m + j]? = (K xs[i])[j]? := by
  rw [flatG_split K xs i, List.getElem?_append_right (by rw [flatG_len hK, List.length_take, Nat.min_eq_left (by omega)]; omega), flatG_len hK, List.length_take, Nat.min_eq_left (by omega),
    List.drop_eq_getElem_cons hi, show i * m + j - i * m = j by omega]
  show (K xs[i] ++ flatG K (xs.drop (i + 1)))[j]? = _
  rw [List.getElem?_append_left (by rw [hK]; exact hj)]
theorem flatG_set {K : α → List Value} {m : Nat} (hK : ∀ a, (K a).length = m) {xs : List α} {k j : Nat} {u : Value} {a' : α} (hk : k < xs.length) (hj : j < m) (ha : K a' = (K xs[k]).set j u) : (flatG K xs).set (k * m + j) u = flatG K (xs.set k a') := by
  induction xs generalizing k with
  | nil => simp at hk
  | cons a xs ih =>
    cases k with
    | zero =>
      simp only [Nat.zero_mul, Nat.zero_add, List.set_cons_zero, flatG]
      rw [List.set_append_left _ _ (by rw [hK]; exact hj)]
      simp only [List.getElem_cons_zero] at ha
      rw [ha]
    | succ k =>
      have hk' : k < xs.length := by simpa using hk
      simp only [List.set_cons_succ, flatG]
      simp only [List.getElem_cons_succ] at ha
      rw [← ih hk' ha, List.set_append_right _ _ (by rw [hK, Nat.succ_mul]; omega), hK, show (k + 1) * m + j - m = k * m + j by rw [Nat.succ_mul]; omega]
/-- a row of the call's own, not nil, that holds the structs -/
structure OG (K : α → List Value) (m : Nat) (E : TypeId) (w : World) (B g n c : Nat) (xs : List α) : Prop where
  hK : ∀ a, (K a).length = m
  hm : 0 < m
  row : w.ownsRow B E m (.slice (some ⟨g, 0, none⟩) n c) n (flatG K xs)
  len : xs.length = n
variable {K : α → List Value} {m : Nat} {E : TypeId} {w w' : World} {B g n c : Nat} {xs : List α}
theorem OG.ge (h : OG K m E w B g n c xs) : B ≤ g := (World.ownsRow.lt h.row _ rfl).1
theorem OG.lt (h : OG K m E w B g n c xs) : g < w.heap.size := (World.ownsRow.lt h.row _ rfl).2
theorem OG.cap (h : OG K m E w B g n c xs) : n ≤ c ∧ c ≤ maxLen := by
  rcases h.row.2 with ⟨h', _⟩ | ⟨g', cap', cur, h', _, hg, a1, a2, _, htake⟩
  · simp at h'
  · simp only [Value.slice.injEq, Option.some.injEq, Addr.mk.injEq, and_true, true_and] at h'
    obtain ⟨rfl, rfl⟩ := h'
    exact ⟨a1, a2⟩
theorem OG.cell (h : OG K m E w B g n c xs) {i j : Nat} (hi : i < n) (hj : j < m) : w.cell? ⟨g, i * m + j, none⟩ = (K (xs[i]'(h.len ▸ hi)))[j]? := by
  rw [h.row.cellAt _ (flat_lt hi hj), flatG_at h.hK (h.len ▸ hi) hj]
theorem OG.frozen (h : OG K m E w B g n c xs) (j : Nat) : w.frozen? ⟨g, j, none⟩ = false := h.row.frozenAt j
theorem OG.below (h : OG K m E w B g n c xs) (hb : Below w.heap.size w w') : OG K m E w' B g n c xs := ⟨h.hK, h.hm, own_below h.row hb, h.len⟩
theorem OG.other {q : Nat} (h : OG K m E w B g n c xs) (hg : w.grownBy w' (some q)) (hne : g ≠ q) : OG K m E w' B g n c xs :=
  ⟨h.hK, h.hm, World.ownsRow.kept h.row hg (.inr (fun e => hne (by injection e with e))), h.len⟩
theorem OG.alloc (h : OG K m E w B g n c xs) (o : Obj) : OG K m E (w.alloc o) B g n c xs := ⟨h.hK, h.hm, World.ownsRow.alloc h.row o, h.len⟩
theorem OG.le {B' : Nat} (h : OG K m E w B g n c xs) (hb : B' ≤ B) : OG K m E w B' g n c xs := ⟨h.hK, h.hm, Joins.ownsRow_le h.row hb, h.len⟩
theorem OG.set (h : OG K m E w B g n c xs) {k j : Nat} (hk : k < n) (hj : j < m) (u : Value) (a' : α) (ha : K a' = (K (xs[k]'(h.len ▸ hk))).set j u) : OG K m E (w.setCell ⟨g, k * m + j, none⟩ u) B g n c (xs.set k a') :=
  ⟨h.hK, h.hm, by rw [← flatG_set h.hK (h.len ▸ hk) hj ha]; exact (h.row.stored (k * m + j) u).1, by rw [List.length_set]; exact h.len⟩
theorem OG.setO (h : OG K m E w B g n c xs) {b j : Nat} (hne : g ≠ b) (u : Value) : OG K m E (w.setCell ⟨b, j, none⟩ u) B g n c xs :=
  h.other (q := b) (grown_setCell (grown_refl w (some b)) u) hne
/-- what an append leaves: its block is the old one or a new one -/
theorem OG.app {w1 : World} {q : Nat} {v1 : Value} {ys : List α} {news : List Value} (h : OG K m E w B g n c xs) (hq : ys.length = q) (hn : news = flatG K ys) (h1 : w1.ownsRow B E m v1 (n + q) (flatG K xs ++ news)) (hnil : v1 = .slice none 0 0 ↔ (.slice (some ⟨g, 0, none⟩) n c : Value) = .slice none 0 0 ∧ q = 0) :
    ∃ g' c', v1 = .slice (some ⟨g', 0, none⟩) (n + q) c' ∧ OG K m E w1 B g' (n + q) c' (xs ++ ys) := by
  rcases Joins.ownsRow_forms h1 with ⟨e, _⟩ | ⟨g', c', rfl⟩
  · have := (hnil.1 e).1; simp at this
  · exact ⟨g', c', rfl, h.hK, h.hm, by rw [flatG_app, ← hn]; exact h1, by rw [List.length_append, h.len, hq]⟩
theorem OG.lit {cs : Array Value} (hK : ∀ a, (K a).length = m) (hm : 0 < m) (hB : B ≤ w.heap.size) (hc : cs.toList = flatG K xs) (hn : xs.length = n) (hl : n ≤ 1048576) : OG K m E (w.alloc (.cells cs E)) B w.heap.size n n xs := by
  have hs : cs.size = n * m := by rw [← Array.length_toList, hc, flatG_len hK, hn]
  have := World.ownsRow_lit (size := m) (e := E) w cs n hB (by unfold maxLen; omega) hs
  exact ⟨hK, hm, by rw [← hc]; exact this, hn⟩
theorem OG.at (h : OG K m E w B g n c xs) {g' : Nat} (e : g = g') : OG K m E w B g' n c xs := e ▸ h
theorem OG.empty {K : α → List Value} {m : Nat} {E : TypeId} {w : World} {B b : Nat} (hK : ∀ a, (K a).length = m) (hm : 0 < m) (hB : B ≤ w.heap.size) (e : w.heap.size = b) : OG K m E (w.alloc (.cells #[] E)) B b 0 0 [] :=
  (OG.lit (cs := #[]) (xs := []) (n := 0) hK hm hB rfl rfl (Nat.zero_le _)).at e
/-- its first k, as what an append takes -/
theorem OG.news (h : OG K m E w B g n c xs) {k : Nat} (hk : k ≤ n) : (flatG K (xs.take k)).length = k * m ∧ ∀ j u, (flatG K (xs.take k))[j]? = some u → w.cell? (Addr.add ⟨g, 0, none⟩ j) = some u := by
  have hl : (flatG K (xs.take k)).length = k * m := by rw [flatG_len h.hK, List.length_take, h.len, Nat.min_eq_left hk]
  refine ⟨hl, fun j u hu => ?_⟩
  have hj : j < k * m := by rw [← hl]; exact (List.getElem?_eq_some_iff.1 hu).1
  have hj' : j < n * m := Nat.lt_of_lt_of_le hj (Nat.mul_le_mul_right m hk)
  rw [Go.WideShapes.add_plain, Nat.zero_add, h.row.cellAt _ hj', flatG_split K xs k, List.getElem?_append_left (by rw [hl]; exact hj)]
  exact hu
theorem OG.all (h : OG K m E w B g n c xs) : (flatG K xs).length = n * m ∧ ∀ j u, (flatG K xs)[j]? = some u → w.cell? (Addr.add ⟨g, 0, none⟩ j) = some u := by
  have := h.news (k := n) (Nat.le_refl _)
  rwa [List.take_of_length_le (by rw [h.len]; exact Nat.le_refl _)] at this
/-- those from k on -/
theorem OG.rest (h : OG K m E w B g n c xs) {k : Nat} (hk : k ≤ n) : (flatG K (xs.drop k)).length = (n - k) * m ∧ ∀ j u, (flatG K (xs.drop k))[j]? = some u → w.cell? (Addr.add ⟨g, k * m, none⟩ j) = some u := by
  have hl : (flatG K (xs.drop k)).length = (n - k) * m := by rw [flatG_len h.hK, List.length_drop, h.len]
  refine ⟨hl, fun j u hu => ?_⟩
  have hj : j < (n - k) * m := by rw [← hl]; exact (List.getElem?_eq_some_iff.1 hu).1
  have hj' : k * m + j < n * m := by
    have : k * m + (n - k) * m = n * m := by rw [← Nat.add_mul]; congr 1; omega
    omega
  have hlt : (flatG K (xs.take k)).length = k * m := by rw [flatG_len h.hK, List.length_take, h.len, Nat.min_eq_left hk]
  rw [Go.WideShapes.add_plain, h.row.cellAt _ hj', flatG_split K xs k, List.getElem?_append_right (by rw [hlt]; omega), hlt, show k * m + j - k * m = j by omega]
  exact hu
theorem flatG_one' {K : α → List Value} {p : Value → Prop} (hK : ∀ a, ∀ u ∈ K a, p u) (xs : List α) : ∀ u ∈ flatG K xs, p u := by
  induction xs with
  | nil => intro u hu; simp [flatG] at hu
  | cons a xs ih =>
    intro u hu
    rcases List.mem_append.1 hu with h | h
    · exact hK a u h
    · exact ih u h
/-- as a slice of structs -/
theorem OG.rsl (h : OG K m E w B g n c xs) (hl : n ≤ 1048576) (f : Nat → Nat → Value) (hf : ∀ i j (hi : i < xs.length), j < m → (K xs[i])[j]? = some (f i j)) : RSl w g 0 n c m f := by
  refine ⟨hl, h.cap.1, h.cap.2, h.lt, fun i j hi hj => ?_⟩
  rw [Nat.zero_add, h.cell hi hj]
  exact hf i j (h.len ▸ hi) hj
end
end Go.Proofs.Ytjanjaabcinkiaa
