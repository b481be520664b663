/- Rows of boxes of a call's own, and equalBoxes of the laws; no statement is proved here. -/
import Derived.Test.YtimfabpigpcjhaaBox
import Derived.Test.YtimfabpigpcjhaaBoo
import Derived.Test.YtimfabpigpcjhaaBoxS
namespace Go.Proofs.Ytimfabpigpcjhaa
open Go.ChangeShapes Go.WideShapes Go.ChangeAt Go.RowKit
set_option linter.unusedVariables false
set_option linter.unusedSimpArgs false

structure Bx where
  x : Int
  y : Int
  w : Int
  h : Int
def Bx.cells (b : Bx) : List Value := [(.int .i64 b.x), (.int .i64 b.y), (.int .i64 b.w), (.int .i64 b.h)]
def flatB : List Bx → List Value
  | [] => []
  | b :: bs => b.cells ++ flatB bs
theorem flatB_length (bs : List Bx) : (flatB bs).length = bs.length * 4 := by
  induction bs with
  | nil => rfl
  | cons b bs ih => simp only [flatB, List.length_append, ih, List.length_cons, Bx.cells, List.length_nil]; omega
theorem flatB_append (cs bs : List Bx) : flatB (cs ++ bs) = flatB cs ++ flatB bs := by
  induction cs with
  | nil => rfl
  | cons a cs ih => simp [flatB, ih]
theorem flatB_one (b : Bx) : flatB [b] = b.cells := by simp [flatB]
def OwnX (w : World) (B : Nat) (v : Value) (bs : List Bx) : Prop := w.ownsRow B 24 4 v bs.length (flatB bs)
theorem OwnX.below {W w : World} {B : Nat} {v : Value} {bs : List Bx} (h : OwnX W B v bs) (hb : Below W.heap.size W w) : OwnX w B v bs := own_below h hb
theorem ownX_nil (w : World) (B : Nat) : OwnX w B (.slice none 0 0) [] := World.ownsRow_nil w B _ 4
def bx (bs : List Bx) (i : Nat) : Bx := bs.getD i ⟨0, 0, 0, 0⟩
/-- the cells of a list of boxes, as the struct rows want them -/
def bxF (bs : List Bx) : Nat → Nat → Value := boxF (fun i => (bx bs i).x) (fun i => (bx bs i).y) (fun i => (bx bs i).w) (fun i => (bx bs i).h)
theorem flatB_at (bs : List Bx) (i j : Nat) (hi : i < bs.length) (hj : j < 4) : (flatB bs)[i * 4 + j]? = some (bxF bs i j) := by
  induction bs generalizing i with
  | nil => simp at hi
  | cons b bs ih =>
    cases i with
    | zero =>
      rw [flatB, List.getElem?_append_left (by simp [Bx.cells]; omega)]
      match j, hj with
      | 0, _ => simp [Bx.cells, bxF, boxF, bx]
      | 1, _ => simp [Bx.cells, bxF, boxF, bx]
      | 2, _ => simp [Bx.cells, bxF, boxF, bx]
      | 3, _ => simp [Bx.cells, bxF, boxF, bx]
    | succ i =>
      have := ih i (by simpa using hi)
      rw [flatB, List.getElem?_append_right (by simp [Bx.cells]; omega)]
      have e : (i + 1) * 4 + j - b.cells.length = i * 4 + j := by simp [Bx.cells]; omega
      rw [e, this]
      match j, hj with
      | 0, _ => simp [bxF, boxF, bx]
      | 1, _ => simp [bxF, boxF, bx]
      | 2, _ => simp [bxF, boxF, bx]
      | 3, _ => simp [bxF, boxF, bx]
theorem OwnX.forms {w : World} {B : Nat} {v : Value} {bs : List Bx} (h : OwnX w B v bs) (hl : bs.length ≤ 1048576) : (v = .slice none 0 0 ∧ bs = []) ∨ ∃ g cap, v = .slice (some ⟨g, 0, none⟩) bs.length cap ∧ B ≤ g ∧ RSl w g 0 bs.length cap 4 (bxF bs) := by
  unfold OwnX at h
  have hh := h
  obtain ⟨h1, ⟨h2, h3⟩ | ⟨g, cap, cur, rfl, hb, hg, hn, hm, hs, ht⟩⟩ := h
  · exact .inl ⟨h2, List.length_eq_zero_iff.1 h3⟩
  · refine .inr ⟨g, cap, rfl, hb, hl, hn, hm, (World.ownsRow.lt hh g rfl).2, fun i j hi hj => ?_⟩
    rw [Nat.zero_add, hh.cellAt _ (flat_lt hi hj)]
    exact flatB_at bs i j hi hj
theorem OwnX.slice {w : World} {B : Nat} {v : Value} {bs : List Bx} (h : OwnX w B v bs) (hl : bs.length ≤ 1048576) : ∃ p cap, v = .slice p bs.length cap ∧ ∀ i, i < bs.length → ∃ g, p = some ⟨g, 0, none⟩ ∧ RSl w g 0 bs.length cap 4 (bxF bs) := by
  rcases h.forms hl with ⟨rfl, rfl⟩ | ⟨g, cap, rfl, _, hr⟩
  · exact ⟨none, 0, rfl, fun i hi => by simp at hi⟩
  · exact ⟨_, cap, rfl, fun i hi => ⟨g, rfl, hr⟩⟩
set_option maxHeartbeats 1600000 in
theorem equalBoxes_same {va vb : Value} {bs : List Bx} {B1 B2 : Nat} {w : World} (ha : OwnX w B1 va bs) (hb : OwnX w B2 vb bs) (hl : bs.length ≤ 1048576) : Calls Try.prog 20 #[va, vb] w (Rd (.bool true) w) := by
  obtain ⟨p, cap, rfl, hp⟩ := ha.slice hl
  obtain ⟨p', cap', rfl, hp'⟩ := hb.slice hl
  obtain ⟨n, hn⟩ : ∃ n, bs.length = n := ⟨_, rfl⟩
  rw [hn] at hp hp' hl ⊢
  clear ha hb hn
  have e0 : ((n : Int) != (n : Int)) = false := by simp
  go_enter Try.func20, Try.ntmps20
  go_wp2_with fail
  go_loopw [5] (fun i wr => ∃ k : Nat, k ≤ n ∧ i = .int .i64 k ∧ Drew w wr) (fun i _ => n - (intOf i).toNat)
  case atStart => exact ⟨0, Nat.zero_le _, rfl, Drew.refl _⟩
  case round =>
    obtain ⟨k, hk, rfl, hd⟩ := hrel
    by_cases hlt : k < n
    · have i1 : (0 : Int) ≤ (k : Int) := by omega
      have i2 : (k : Int) < (n : Int) := by omega
      obtain ⟨g, rfl, h⟩ := hp k hlt
      obtain ⟨g', rfl, h'⟩ := hp' k hlt
      obtain ⟨c0, c1, c2, c3⟩ := box_cells (h.below hd.below) hlt
      obtain ⟨e1, e2, e3, e4⟩ := box_cells (h'.below hd.below) hlt
      obtain ⟨x0, hx0⟩ : ∃ x, x = (bx bs k).x := ⟨_, rfl⟩
      rw [← hx0] at c0 e1
      obtain ⟨x1, hx1⟩ : ∃ x, x = (bx bs k).y := ⟨_, rfl⟩
      rw [← hx1] at c1 e2
      obtain ⟨x2, hx2⟩ : ∃ x, x = (bx bs k).w := ⟨_, rfl⟩
      rw [← hx2] at c2 e3
      obtain ⟨x3, hx3⟩ : ∃ x, x = (bx bs k).h := ⟨_, rfl⟩
      rw [← hx3] at c3 e4
      simp only [Nat.zero_add] at c0 c1 c2 c3 e1 e2 e3 e4
      clear hx0 hx1 hx2 hx3 hp hp'
      go_wp2_with fail
      go_quiet (fail)
      go_wp2
      go_roundw
      case rel => exact ⟨k + 1, by omega, by go_num, (by repeat (first | exact Drew.refl _ | assumption | refine Drew.drewN ?_ _ | refine Drew.drew ?_))⟩
      case measure => simp [intOf]; omega
    · go_wp2
      go_ret
      exact ⟨rfl, (by repeat (first | exact Drew.refl _ | assumption | refine Drew.drewN ?_ _ | refine Drew.drew ?_))⟩
end Go.Proofs.Ytimfabpigpcjhaa
