/- putStacks (spec), PutStacks and StacksFor of spec; no statement is proved here. -/
import Derived.Test.YtddpjgcodnfbjaaPlLis
import Derived.Test.YtddpjgcodnfbjaaSwap2
import Derived.Maps.AppendAt
namespace Go.Proofs.Ytddpjgcodnfbjaa
open Go.ChangeShapes Go.WideShapes Go.ChangeAt Go.RowKit
set_option linter.unusedVariables false
set_option linter.unusedSimpArgs false

theorem own_app {w : World} {B : Nat} {E : TypeId} {v : Value} {zs : List Int} {x : Int} (h : w.ownsRow B E 1 v (zs.length + 1) (zs.map (Value.int .i64) ++ [.int .i64 x])) : Own w B E v (zs ++ [x]) := by
  unfold Own; rw [List.length_append, List.map_append]; exact h
theorem own_app_form {w : World} {B m : Nat} {E : TypeId} {v : Value} {zs : List Int} {x : Int} (h : Own w B E v (zs ++ [x])) (hm : zs.length = m) : ∃ g c, v = .slice (some ⟨g, 0, none⟩) (m + 1) c := by
  rcases h.forms with ⟨_, e⟩ | ⟨g, c, e, _⟩
  · simp at e
  · exact ⟨g, c, by rw [e, List.length_append, hm]; rfl⟩
theorem putTop_new {T : List Int} {x : Int} {m : Nat} (h : T.length = m) : (T ++ [0]).set m x = putTop T m x := by
  subst h; unfold putTop; rw [if_neg (Nat.lt_irrefl _)]; rw [List.set_append_right _ _ (Nat.le_refl _)]; simp
theorem putTop_old {T : List Int} {x : Int} {m q : Nat} (h : T.length = m) (hq : q < m) : T.set q x = putTop T q x := by
  subst h; unfold putTop; rw [if_pos hq]
theorem greedy_1 {zs T : List Int} {k q : Nat} (hT : T = (greedy zs k).1) (hq : IsFirst T (el zs k) q) : (greedy zs (k + 1)).1 = putTop T q (el zs k) ∧ (greedy zs (k + 1)).2 = (greedy zs k).2 ++ [(q : Int)] := by
  have e : firstS T (el zs k) T.length = q := (firstS_spec T (el zs k) T.length (Nat.le_refl _) (fun p hp => by omega)).unique hq
  subst hT
  constructor
  · show putTop _ (firstS _ _ _) _ = _; rw [e]
  · show _ ++ [_] = _; rw [e]
theorem cell_one_at (w : World) (v : Value) (t : TypeId) (H : Nat) (hH : w.heap.size = H) : ∀ (j : Nat) (u : Value), [v][j]? = some u → (w.alloc (.cells #[v] t)).cell? ((⟨H, 0, none⟩ : Addr).add j) = some u := by
  subst hH; exact cell_one_new w v t
/-- two rows side by side: one grows by an element, the other stays -/
theorem two_app {wq w1 : World} {B g c m go co k : Nat} {E : TypeId} {T O : List Int} {v1 : Value} {x : Int} {o : Obj}
    (oT : Own wq B E (.slice (some ⟨g, 0, none⟩) m c) T) (oO : Own wq B E (.slice (some ⟨go, 0, none⟩) k co) O) (hne : g ≠ go) (hB : B ≤ wq.heap.size)
    (h1 : w1.ownsRow B E 1 v1 (T.length + 1) (T.map (Value.int .i64) ++ [.int .i64 x])) (h2 : (wq.alloc o).grownBy w1 (some g)) (h4 : v1.ownBlock = some g ∨ v1.ownBlock = some (wq.alloc o).heap.size) :
    ∃ g1 c1, v1 = .slice (some ⟨g1, 0, none⟩) (m + 1) c1 ∧ Own w1 B E (.slice (some ⟨g1, 0, none⟩) (m + 1) c1) (T ++ [x]) ∧ Own w1 B E (.slice (some ⟨go, 0, none⟩) k co) O ∧ g1 ≠ go ∧ Below B wq w1 ∧ B ≤ g1 := by
  have ha := own_app h1
  obtain ⟨g1, c1, rfl⟩ := own_app_form ha (Own.at oT).1.symm
  have hgo := (Own.at oO).2.2.1
  refine ⟨g1, c1, rfl, ha, ?_, ?_, ?_, (Own.at ha).2.1⟩
  · exact (oO.below ((Below.refl _ _).alloc (Nat.le_refl _) o)).kept h2 (.inr (fun e => hne (by injection e with e; exact e.symm)))
  · rcases h4 with h4 | h4
    · injection h4 with h4; have h4' : g1 = g := h4; rw [h4']; exact hne
    · injection h4 with h4; have h4' : g1 = (wq.alloc o).heap.size := h4; rw [h4']; simp; omega
  · exact ((Below.refl B wq).alloc hB o).grown h2 (by simp; omega) (fun k hk => by cases hk; exact (Own.at oT).2.1)
theorem own_beside {w : World} {B g go m c j : Nat} {E : TypeId} {O : List Int} {u : Value} (h : Own w B E (.slice (some ⟨go, 0, none⟩) m c) O) (hne : g ≠ go) : Own (w.setCell ⟨g, j, none⟩ u) B E (.slice (some ⟨go, 0, none⟩) m c) O :=
  h.kept (grown_setCell (grown_refl w (some g)) u) (.inr (fun e => hne (by injection e with e; exact e.symm)))
end Go.Proofs.Ytddpjgcodnfbjaa
