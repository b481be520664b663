/- The head of the program, letter by letter: so that the facts on its first words cost little; no statement is proved here. -/
import Derived.Test.YtjanjaabcinkiaaRows
import Derived.JoinedOf
namespace Go.Proofs.Ytjanjaabcinkiaa
set_option maxRecDepth 100000
def headA : List Char := [Char.ofNat 104, Char.ofNat 97, Char.ofNat 114, Char.ofNat 110, Char.ofNat 101, Char.ofNat 115, Char.ofNat 115, Char.ofNat 32, Char.ofNat 97, Char.ofNat 97, Char.ofNat 50, Char.ofNat 51, Char.ofNat 49, Char.ofNat 50, Char.ofNat 55, Char.ofNat 51, Char.ofNat 54, Char.ofNat 102, Char.ofNat 98, Char.ofNat 98, Char.ofNat 55, Char.ofNat 97, Char.ofNat 52, Char.ofNat 55, Char.ofNat 52, Char.ofNat 54, Char.ofNat 49, Char.ofNat 97, Char.ofNat 48, Char.ofNat 51, Char.ofNat 49, Char.ofNat 98, Char.ofNat 101, Char.ofNat 50, Char.ofNat 100, Char.ofNat 52, Char.ofNat 55, Char.ofNat 56, Char.ofNat 97, Char.ofNat 100, Char.ofNat 52, Char.ofNat 97, Char.ofNat 53, Char.ofNat 52, Char.ofNat 55, Char.ofNat 100, Char.ofNat 48, Char.ofNat 99, Char.ofNat 102, Char.ofNat 57, Char.ofNat 102, Char.ofNat 52, Char.ofNat 102, Char.ofNat 50, Char.ofNat 51, Char.ofNat 53, Char.ofNat 54, Char.ofNat 102, Char.ofNat 102, Char.ofNat 52, Char.ofNat 97, Char.ofNat 101, Char.ofNat 55, Char.ofNat 49, Char.ofNat 53, Char.ofNat 51, Char.ofNat 98, Char.ofNat 50, Char.ofNat 101, Char.ofNat 99, Char.ofNat 56, Char.ofNat 51, Char.ofNat 32, Char.ofNat 99, Char.ofNat 117, Char.ofNat 116]
def headB : List Char := [Char.ofNat 97, Char.ofNat 116, Char.ofNat 32, Char.ofNat 108, Char.ofNat 111, Char.ofNat 111, Char.ofNat 112, Char.ofNat 46, Char.ofNat 101, Char.ofNat 120, Char.ofNat 97, Char.ofNat 109, Char.ofNat 112, Char.ofNat 108, Char.ofNat 101, Char.ofNat 47, Char.ofNat 112, Char.ofNat 97, Char.ofNat 110, Char.ofNat 101, Char.ofNat 99, Char.ofNat 117, Char.ofNat 116, Char.ofNat 116, Char.ofNat 101, Char.ofNat 114, Char.ofNat 47, Char.ofNat 108, Char.ofNat 97, Char.ofNat 119, Char.ofNat 115, Char.ofNat 46, Char.ofNat 70, Char.ofNat 110, Char.ofNat 69, Char.ofNat 120, Char.ofNat 97, Char.ofNat 99, Char.ofNat 116, Char.ofNat 67, Char.ofNat 117, Char.ofNat 116, Char.ofNat 115, Char.ofNat 79, Char.ofNat 102, Char.ofNat 32, Char.ofNat 108, Char.ofNat 111, Char.ofNat 111, Char.ofNat 112, Char.ofNat 46, Char.ofNat 101, Char.ofNat 120, Char.ofNat 97, Char.ofNat 109, Char.ofNat 112, Char.ofNat 108, Char.ofNat 101, Char.ofNat 47, Char.ofNat 112, Char.ofNat 97, Char.ofNat 110, Char.ofNat 101, Char.ofNat 99, Char.ofNat 117, Char.ofNat 116, Char.ofNat 116, Char.ofNat 101, Char.ofNat 114, Char.ofNat 47, Char.ofNat 108, Char.ofNat 97, Char.ofNat 119, Char.ofNat 115, Char.ofNat 46, Char.ofNat 70, Char.ofNat 110, Char.ofNat 69, Char.ofNat 120, Char.ofNat 97, Char.ofNat 99, Char.ofNat 116, Char.ofNat 80, Char.ofNat 108, Char.ofNat 97, Char.ofNat 110, Char.ofNat 83, Char.ofNat 105, Char.ofNat 122, Char.ofNat 101, Char.ofNat 32, Char.ofNat 108, Char.ofNat 111, Char.ofNat 111, Char.ofNat 112, Char.ofNat 46, Char.ofNat 101, Char.ofNat 120, Char.ofNat 97, Char.ofNat 109, Char.ofNat 112, Char.ofNat 108, Char.ofNat 101, Char.ofNat 47, Char.ofNat 112, Char.ofNat 97, Char.ofNat 110, Char.ofNat 101, Char.ofNat 99, Char.ofNat 117, Char.ofNat 116, Char.ofNat 116, Char.ofNat 101, Char.ofNat 114, Char.ofNat 47, Char.ofNat 108, Char.ofNat 97, Char.ofNat 119, Char.ofNat 115, Char.ofNat 46, Char.ofNat 70, Char.ofNat 110, Char.ofNat 69, Char.ofNat 120, Char.ofNat 97, Char.ofNat 99, Char.ofNat 116, Char.ofNat 86, Char.ofNat 97, Char.ofNat 108, Char.ofNat 105, Char.ofNat 100, Char.ofNat 87, Char.ofNat 111, Char.ofNat 114, Char.ofNat 107, Char.ofNat 32, Char.ofNat 108, Char.ofNat 111, Char.ofNat 111, Char.ofNat 112, Char.ofNat 46, Char.ofNat 101, Char.ofNat 120, Char.ofNat 97, Char.ofNat 109, Char.ofNat 112, Char.ofNat 108, Char.ofNat 101, Char.ofNat 47, Char.ofNat 112, Char.ofNat 97, Char.ofNat 110, Char.ofNat 101, Char.ofNat 99, Char.ofNat 117, Char.ofNat 116, Char.ofNat 116, Char.ofNat 101, Char.ofNat 114, Char.ofNat 47, Char.ofNat 108, Char.ofNat 97, Char.ofNat 119, Char.ofNat 115, Char.ofNat 46, Char.ofNat 70, Char.ofNat 110, Char.ofNat 69, Char.ofNat 120, Char.ofNat 97, Char.ofNat 99, Char.ofNat 116, Char.ofNat 86, Char.ofNat 97, Char.ofNat 108, Char.ofNat 105, Char.ofNat 100, Char.ofNat 79, Char.ofNat 114, Char.ofNat 100, Char.ofNat 101, Char.ofNat 114, Char.ofNat 32, Char.ofNat 108, Char.ofNat 111, Char.ofNat 111, Char.ofNat 112, Char.ofNat 46, Char.ofNat 101, Char.ofNat 120, Char.ofNat 97, Char.ofNat 109, Char.ofNat 112, Char.ofNat 108, Char.ofNat 101, Char.ofNat 47, Char.ofNat 112, Char.ofNat 97, Char.ofNat 110, Char.ofNat 101, Char.ofNat 99, Char.ofNat 117, Char.ofNat 116, Char.ofNat 116, Char.ofNat 101, Char.ofNat 114, Char.ofNat 47, Char.ofNat 108, Char.ofNat 97, Char.ofNat 119, Char.ofNat 115, Char.ofNat 46, Char.ofNat 70, Char.ofNat 110, Char.ofNat 69, Char.ofNat 120, Char.ofNat 97, Char.ofNat 99, Char.ofNat 116, Char.ofNat 79, Char.ofNat 114, Char.ofNat 100, Char.ofNat 101, Char.ofNat 114, Char.ofNat 65, Char.ofNat 114, Char.ofNat 101, Char.ofNat 97, Char.ofNat 32, Char.ofNat 108, Char.ofNat 111, Char.ofNat 111, Char.ofNat 112, Char.ofNat 46, Char.ofNat 101, Char.ofNat 120, Char.ofNat 97, Char.ofNat 109, Char.ofNat 112, Char.ofNat 108, Char.ofNat 101, Char.ofNat 47, Char.ofNat 112, Char.ofNat 97, Char.ofNat 110, Char.ofNat 101, Char.ofNat 99, Char.ofNat 117, Char.ofNat 116, Char.ofNat 116, Char.ofNat 101, Char.ofNat 114, Char.ofNat 47, Char.ofNat 108, Char.ofNat 97, Char.ofNat 119, Char.ofNat 115, Char.ofNat 46, Char.ofNat 70, Char.ofNat 110, Char.ofNat 69, Char.ofNat 120, Char.ofNat 97, Char.ofNat 99, Char.ofNat 116, Char.ofNat 65, Char.ofNat 112, Char.ofNat 97, Char.ofNat 114, Char.ofNat 116, Char.ofNat 66, Char.ofNat 111, Char.ofNat 120, Char.ofNat 101, Char.ofNat 115, Char.ofNat 32, Char.ofNat 108, Char.ofNat 111, Char.ofNat 111, Char.ofNat 112, Char.ofNat 46, Char.ofNat 101, Char.ofNat 120, Char.ofNat 97, Char.ofNat 109, Char.ofNat 112, Char.ofNat 108, Char.ofNat 101, Char.ofNat 47, Char.ofNat 112, Char.ofNat 97, Char.ofNat 110, Char.ofNat 101, Char.ofNat 99, Char.ofNat 117, Char.ofNat 116, Char.ofNat 116, Char.ofNat 101, Char.ofNat 114, Char.ofNat 47, Char.ofNat 108, Char.ofNat 97, Char.ofNat 119, Char.ofNat 115, Char.ofNat 46, Char.ofNat 70, Char.ofNat 110, Char.ofNat 69, Char.ofNat 120, Char.ofNat 97, Char.ofNat 99, Char.ofNat 116, Char.ofNat 65, Char.ofNat 114, Char.ofNat 101, Char.ofNat 97, Char.ofNat 66, Char.ofNat 111, Char.ofNat 117, Char.ofNat 110, Char.ofNat 100, Char.ofNat 32, Char.ofNat 108, Char.ofNat 111, Char.ofNat 111, Char.ofNat 112, Char.ofNat 46, Char.ofNat 101, Char.ofNat 120, Char.ofNat 97, Char.ofNat 109, Char.ofNat 112, Char.ofNat 108, Char.ofNat 101, Char.ofNat 47, Char.ofNat 112, Char.ofNat 97, Char.ofNat 110, Char.ofNat 101, Char.ofNat 99, Char.ofNat 117, Char.ofNat 116, Char.ofNat 116, Char.ofNat 101, Char.ofNat 114, Char.ofNat 47, Char.ofNat 108, Char.ofNat 97, Char.ofNat 119, Char.ofNat 115, Char.ofNat 46, Char.ofNat 70, Char.ofNat 110, Char.ofNat 69, Char.ofNat 120, Char.ofNat 97, Char.ofNat 99, Char.ofNat 116, Char.ofNat 86, Char.ofNat 97, Char.ofNat 108, Char.ofNat 105, Char.ofNat 100, Char.ofNat 80, Char.ofNat 105, Char.ofNat 101, Char.ofNat 99, Char.ofNat 101, Char.ofNat 32, Char.ofNat 108, Char.ofNat 111, Char.ofNat 111, Char.ofNat 112, Char.ofNat 46, Char.ofNat 101, Char.ofNat 120, Char.ofNat 97, Char.ofNat 109, Char.ofNat 112, Char.ofNat 108, Char.ofNat 101, Char.ofNat 47, Char.ofNat 112, Char.ofNat 97, Char.ofNat 110, Char.ofNat 101, Char.ofNat 99, Char.ofNat 117, Char.ofNat 116, Char.ofNat 116, Char.ofNat 101, Char.ofNat 114, Char.ofNat 47, Char.ofNat 108, Char.ofNat 97, Char.ofNat 119, Char.ofNat 115, Char.ofNat 46, Char.ofNat 70, Char.ofNat 110, Char.ofNat 86, Char.ofNat 97, Char.ofNat 108, Char.ofNat 105, Char.ofNat 100, Char.ofNat 83, Char.ofNat 116, Char.ofNat 111, Char.ofNat 99, Char.ofNat 107, Char.ofNat 32, Char.ofNat 108, Char.ofNat 111, Char.ofNat 111, Char.ofNat 112, Char.ofNat 46, Char.ofNat 101, Char.ofNat 120, Char.ofNat 97, Char.ofNat 109, Char.ofNat 112, Char.ofNat 108, Char.ofNat 101, Char.ofNat 47, Char.ofNat 112, Char.ofNat 97, Char.ofNat 110, Char.ofNat 101, Char.ofNat 99, Char.ofNat 117, Char.ofNat 116, Char.ofNat 116, Char.ofNat 101, Char.ofNat 114, Char.ofNat 47, Char.ofNat 108, Char.ofNat 97, Char.ofNat 119, Char.ofNat 115, Char.ofNat 46, Char.ofNat 70, Char.ofNat 110, Char.ofNat 86, Char.ofNat 97, Char.ofNat 108, Char.ofNat 105, Char.ofNat 100, Char.ofNat 80, Char.ofNat 105, Char.ofNat 101, Char.ofNat 99, Char.ofNat 101, Char.ofNat 32, Char.ofNat 108, Char.ofNat 111, Char.ofNat 111, Char.ofNat 112, Char.ofNat 46, Char.ofNat 101, Char.ofNat 120, Char.ofNat 97, Char.ofNat 109, Char.ofNat 112, Char.ofNat 108, Char.ofNat 101, Char.ofNat 47, Char.ofNat 112, Char.ofNat 97, Char.ofNat 110, Char.ofNat 101, Char.ofNat 99, Char.ofNat 117, Char.ofNat 116, Char.ofNat 116, Char.ofNat 101, Char.ofNat 114, Char.ofNat 47, Char.ofNat 108, Char.ofNat 97, Char.ofNat 119, Char.ofNat 115, Char.ofNat 46, Char.ofNat 70, Char.ofNat 110, Char.ofNat 86, Char.ofNat 97, Char.ofNat 108, Char.ofNat 105, Char.ofNat 100, Char.ofNat 79, Char.ofNat 114, Char.ofNat 100, Char.ofNat 101, Char.ofNat 114]
theorem head_eq : Try.prog.initOrder = String.ofList (headA ++ Char.ofNat 32 :: headB) := by kernel_rfl
theorem head_chars : Try.prog.initOrder.toList = headA ++ Char.ofNat 32 :: headB := by rw [head_eq]; exact String.toList_ofList
theorem words_append (l r : List Char) : wordsSigns (l ++ Char.ofNat 32 :: r) = wordsSigns l ++ wordsSigns r := by
  induction l with
  | nil => rfl
  | cons c l ih =>
    have hne : ∀ x : List Char, wordsSigns x ≠ [] := by
      intro x
      induction x with
      | nil => simp [wordsSigns]
      | cons d x ihx =>
        unfold wordsSigns
        split
        · simp
        · simp
        · split <;> simp
    by_cases h : c = Char.ofNat 32
    · subst h
      show [] :: wordsSigns (l ++ Char.ofNat 32 :: r) = ([] :: wordsSigns l) ++ wordsSigns r
      rw [ih]; rfl
    · have e : ∀ x, wordsSigns (c :: x) = (match wordsSigns x with | w :: ws => (c :: w) :: ws | [] => [[c]]) := by
        intro x
        rw [wordsSigns]
        · rfl
        · intro hc; exact h hc
      rw [List.cons_append, e, e, ih]
      cases hl : wordsSigns l with
      | nil => exact absurd hl (hne l)
      | cons w ws => rfl
theorem behind_gen (ws : List (List Char)) : behindMainWord (wordsSigns headA ++ ws) = [Char.ofNat 99, Char.ofNat 117, Char.ofNat 116] :: ws := by kernel_rfl
theorem behind_eq : behindMainWord (wordsSigns Try.prog.initOrder.toList) = [Char.ofNat 99, Char.ofNat 117, Char.ofNat 116] :: wordsSigns headB := by
  rw [head_chars, words_append]
  exact behind_gen _
theorem may_of (P : Program) (ws : List (List Char)) (h : behindMainWord (wordsSigns P.initOrder.toList) = [Char.ofNat 99, Char.ofNat 117, Char.ofNat 116] :: ws) (h1 : P.laysLater = false) (h2 : P.bearsReflect = false) (h3 : P.doorFits [] = true) : P.mayEnter = true := by
  have hs : stripLifts liftWords ([Char.ofNat 99, Char.ofNat 117, Char.ofNat 116] :: ws) = ([], [Char.ofNat 99, Char.ofNat 117, Char.ofNat 116] :: ws) := by kernel_rfl
  unfold Program.mayEnter
  rw [h]
  dsimp only
  rw [hs, h1, h2, h3]
  all_goals (first | rfl | kernel_rfl)
theorem lifts_of (P : Program) (ws : List (List Char)) (h : behindMainWord (wordsSigns P.initOrder.toList) = [Char.ofNat 99, Char.ofNat 117, Char.ofNat 116] :: ws) : P.headLifts = [] := by
  have hs : stripLifts liftWords ([Char.ofNat 99, Char.ofNat 117, Char.ofNat 116] :: ws) = ([], [Char.ofNat 99, Char.ofNat 117, Char.ofNat 116] :: ws) := by kernel_rfl
  unfold Program.headLifts
  rw [h, hs]
  exact ite_self _
theorem final_of (P : Program) (ws : List (List Char)) (h : behindMainWord (wordsSigns P.initOrder.toList) = [Char.ofNat 99, Char.ofNat 117, Char.ofNat 116] :: ws) : P.liftsFinal = false := by
  unfold Program.liftsFinal
  rw [h, lifts_of P ws h]
  all_goals (first | rfl | kernel_rfl)
theorem make_of (P : Program) (ws : List (List Char)) (h : behindMainWord (wordsSigns P.initOrder.toList) = [Char.ofNat 99, Char.ofNat 117, Char.ofNat 116] :: ws) : P.make = some .cut := by
  unfold Program.make
  rw [h]
  all_goals (first | rfl | kernel_rfl)
theorem may_enter : Try.prog.mayEnter = true := may_of _ _ behind_eq (by kernel_rfl) (by kernel_rfl) (by kernel_rfl)
theorem lifts_final : Try.prog.liftsFinal = false := final_of _ _ behind_eq
theorem make_eq : Try.prog.make = some .cut := make_of _ _ behind_eq
end Go.Proofs.Ytjanjaabcinkiaa
