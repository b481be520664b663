/- Plain: a list without one of its elements; no program in sight, no statement is proved here. -/
import Derived.Test.YtjanjaabcinkiaaBase
namespace Go.Proofs.Ytjanjaabcinkiaa
set_option linter.unusedVariables false
set_option linter.unusedSimpArgs false

def rm {α : Type} (ls : List α) (i : Nat) : List α := ls.take i ++ ls.drop (i + 1)
def sk (i j : Nat) : Nat := if j < i then j else j + 1
theorem rm_len {α : Type} {ls : List α} {i : Nat} (h : i < ls.length) : (rm ls i).length = ls.length - 1 := by
  unfold rm; rw [List.length_append, List.length_take, List.length_drop]; omega
theorem rm_get {α : Type} {ls : List α} {i : Nat} (h : i < ls.length) (j : Nat) : (rm ls i)[j]? = ls[sk i j]? := by
  unfold rm sk
  by_cases hj : j < i
  · rw [if_pos hj, List.getElem?_append_left (by rw [List.length_take]; omega), List.getElem?_take, if_pos hj]
  · rw [if_neg hj, List.getElem?_append_right (by rw [List.length_take]; omega), List.length_take, Nat.min_eq_left (by omega), List.getElem?_drop]
    congr 1; omega
theorem rm_getD {α : Type} {ls : List α} {i : Nat} (h : i < ls.length) (j : Nat) (d : α) : (rm ls i).getD j d = ls.getD (sk i j) d := by
  rw [List.getD_eq_getElem?_getD, List.getD_eq_getElem?_getD, rm_get h]
theorem sk_lt {i j n : Nat} (hj : j < n - 1) : sk i j < n := by unfold sk; split <;> omega
theorem sk_mono {i j k : Nat} (h : j < k) : sk i j < sk i k := by unfold sk; split <;> split <;> omega
end Go.Proofs.Ytjanjaabcinkiaa
