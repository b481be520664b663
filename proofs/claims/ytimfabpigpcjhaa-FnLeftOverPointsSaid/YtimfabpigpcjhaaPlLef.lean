/- Plain mathematics: what a box leaves over of another, as a list; each point lies in one of them; no program in sight, no statement is proved here. -/
import Derived.Test.YtimfabpigpcjhaaBxs
namespace Go.Proofs.Ytimfabpigpcjhaa
set_option linter.unusedVariables false
set_option linter.unusedSimpArgs false

def pt (b : Bx) (x y : Int) : Bool := decide (b.x ≤ x ∧ x < b.x + b.w ∧ b.y ≤ y ∧ y < b.y + b.h)
def okB (b : Bx) : Bool := vBox b.x b.y b.w b.h
def mtX (a b : Bx) : Bool := meets a.x a.y a.w a.h b.x b.y b.w b.h
def mt (a b : Bx) : Bx := ⟨mX a.x b.x, mX a.y b.y, mW a.x a.w b.x b.w, mW a.y a.h b.y b.h⟩
def q1 (a m : Bx) : Bx := ⟨a.x, a.y, m.x - a.x, a.h⟩
def q2 (a m : Bx) : Bx := ⟨m.x + m.w, a.y, a.x + a.w - m.x - m.w, a.h⟩
def q3 (a m : Bx) : Bx := ⟨m.x, a.y, m.w, m.y - a.y⟩
def q4 (a m : Bx) : Bx := ⟨m.x, m.y + m.h, m.w, a.y + a.h - m.y - m.h⟩
def leftP (a m : Bx) : List Bx := (if a.x < m.x then [q1 a m] else []) ++ (if m.x + m.w < a.x + a.w then [q2 a m] else []) ++ (if a.y < m.y then [q3 a m] else []) ++ (if m.y + m.h < a.y + a.h then [q4 a m] else [])
@[irreducible] def leftR (a b : Bx) : List Bx := if okB a = true ∧ okB b = true then (if mtX a b = true then leftP a (mt a b) else [a]) else []
theorem leftR_no {a b : Bx} (h : ¬ (okB a = true ∧ okB b = true)) : leftR a b = [] := by unfold leftR; rw [if_neg h]
theorem leftR_a {a b : Bx} (h : okB a = true) (h' : okB b = true) (hm : mtX a b = false) : leftR a b = [a] := by unfold leftR; rw [if_pos ⟨h, h'⟩, hm]; rfl
theorem leftR_p {a b : Bx} (h : okB a = true) (h' : okB b = true) (hm : mtX a b = true) : leftR a b = leftP a (mt a b) := by unfold leftR; rw [if_pos ⟨h, h'⟩, if_pos hm]
/-- how many of the boxes have the point -/
def cntP (x y : Int) : List Bx → Nat
  | [] => 0
  | b :: bs => (if pt b x y = true then 1 else 0) + cntP x y bs
theorem cntP_append (x y : Int) (cs bs : List Bx) : cntP x y (cs ++ bs) = cntP x y cs + cntP x y bs := by
  induction cs with
  | nil => simp [cntP]
  | cons c cs ih => simp only [List.cons_append, cntP, ih]; omega
theorem cnt_if {x y : Int} {c : Prop} [Decidable c] {q : Bx} (P : Prop) [Decidable P] (h : (c ∧ (q.x ≤ x ∧ x < q.x + q.w ∧ q.y ≤ y ∧ y < q.y + q.h)) ↔ P) : cntP x y (if c then [q] else []) = if P then 1 else 0 := by
  by_cases hc : c
  · rw [if_pos hc]
    by_cases hq : q.x ≤ x ∧ x < q.x + q.w ∧ q.y ≤ y ∧ y < q.y + q.h
    · rw [if_pos (h.1 ⟨hc, hq⟩)]; simp [cntP, pt, hq]
    · rw [if_neg (fun hp => hq (h.2 hp).2)]
      have : pt q x y = false := by unfold pt; exact decide_eq_false hq
      simp [cntP, this]
  · rw [if_neg hc, if_neg (fun hp => hc (h.2 hp).1)]; rfl
theorem left_points {a b : Bx} (ha : okB a = true) (hb : okB b = true) {x y : Int} (hx : a.x ≤ x) (hx' : x < a.x + a.w) (hy : a.y ≤ y) (hy' : y < a.y + a.h) : cntP x y (leftR a b) = if pt b x y = true then 0 else 1 := by
  obtain ⟨a1, a2, a3, a4, a5, a6, a7, a8⟩ := vBox_bd ha
  obtain ⟨b1, b2, b3, b4, b5, b6, b7, b8⟩ := vBox_bd hb
  cases hm : mtX a b
  · rw [leftR_a ha hb hm]
    have hpa : pt a x y = true := decide_eq_true ⟨hx, hx', hy, hy'⟩
    have hpb : pt b x y = false := by
      unfold mtX meets at hm
      have hm := of_decide_eq_false hm
      rw [mW_eq, mW_eq] at hm
      unfold pt
      exact decide_eq_false (fun h => hm ⟨by omega, by omega⟩)
    simp [cntP, hpa, hpb]
  · rw [leftR_p ha hb hm]
    unfold mtX meets at hm
    obtain ⟨m1, m2⟩ := of_decide_eq_true hm
    have e1 : (mt a b).x = max a.x b.x := mX_eq _ _
    have e2 : (mt a b).y = max a.y b.y := mX_eq _ _
    have e3 : (mt a b).w = min (a.x + a.w) (b.x + b.w) - max a.x b.x := mW_eq _ _ _ _
    have e4 : (mt a b).h = min (a.y + a.h) (b.y + b.h) - max a.y b.y := mW_eq _ _ _ _
    rw [mW_eq] at m1 m2
    generalize mt a b = m at *
    have hpb : pt b x y = decide (m.x ≤ x ∧ x < m.x + m.w ∧ m.y ≤ y ∧ y < m.y + m.h) := by
      unfold pt; exact decide_eq_decide.2 (by omega)
    rw [hpb]
    unfold leftP
    rw [cntP_append, cntP_append, cntP_append]
    rw [cnt_if (x < m.x) (by simp only [q1]; omega), cnt_if (m.x + m.w ≤ x) (by simp only [q2]; omega), cnt_if (m.x ≤ x ∧ x < m.x + m.w ∧ y < m.y) (by simp only [q3]; omega), cnt_if (m.x ≤ x ∧ x < m.x + m.w ∧ m.y + m.h ≤ y) (by simp only [q4]; omega)]
    simp only [decide_eq_true_eq]
    split <;> split <;> split <;> split <;> split <;> omega
end Go.Proofs.Ytimfabpigpcjhaa
