/- FireTime, plain law: groups, their sizes and longest times; no program in sight, no statement is proved here. -/
import Derived.Test.YtglglgfiifjejaaPlRack
namespace Go.Proofs.Ytglglgfiifjejaa
set_option linter.unusedVariables false
set_option linter.unusedSimpArgs false

def cntG (gs : List Int) (x : Int) : Nat → Nat
  | 0 => 0
  | k + 1 => if el gs k = x then cntG gs x k + 1 else cntG gs x k
/-- how many of the first k are in group x -/
@[irreducible] def cntF (gs : List Int) (x : Int) (k : Nat) : Nat := cntG gs x k
theorem cntF_zero (gs : List Int) (x : Int) : cntF gs x 0 = 0 := by unfold cntF; rfl
theorem cntF_succ (gs : List Int) (x : Int) (k : Nat) : cntF gs x (k + 1) = if el gs k = x then cntF gs x k + 1 else cntF gs x k := by unfold cntF; rfl
theorem cntF_mono (gs : List Int) (x : Int) {k m : Nat} (h : k ≤ m) : cntF gs x k ≤ cntF gs x m := by
  induction m with
  | zero => have : k = 0 := by omega
            rw [this]; exact Nat.le_refl _
  | succ m ih =>
    by_cases e : k = m + 1
    · rw [e]; exact Nat.le_refl _
    · have := ih (by omega)
      rw [cntF_succ]; split <;> omega
theorem cntF_le (gs : List Int) (x : Int) (k : Nat) : cntF gs x k ≤ k := by
  induction k with
  | zero => rw [cntF_zero]; exact Nat.le_refl _
  | succ k ih => rw [cntF_succ]; split <;> omega
def lngG (ts gs : List Int) (g : Int) : Nat → Int
  | 0 => 0
  | k + 1 => if el gs k = g then max (lngG ts gs g k) (el ts k) else lngG ts gs g k
/-- the longest time in group g of the first k -/
@[irreducible] def lngF (ts gs : List Int) (g : Int) (k : Nat) : Int := lngG ts gs g k
theorem lngF_zero (ts gs : List Int) (g : Int) : lngF ts gs g 0 = 0 := by unfold lngF; rfl
theorem lngF_succ (ts gs : List Int) (g : Int) (k : Nat) : lngF ts gs g (k + 1) = if el gs k = g then max (lngF ts gs g k) (el ts k) else lngF ts gs g k := by unfold lngF; rfl
def okTm (ts : List Int) (k : Nat) : Prop := ∀ i, i < k → 0 ≤ el ts i ∧ el ts i ≤ 500
instance (ts : List Int) (k : Nat) : Decidable (okTm ts k) := by unfold okTm; infer_instance
theorem okTm_succ {ts : List Int} {k : Nat} (h : okTm ts k) (h1 : 0 ≤ el ts k ∧ el ts k ≤ 500) : okTm ts (k + 1) := fun i hi => by
  by_cases e : i = k
  · subst e; exact h1
  · exact h i (by omega)
theorem lngF_bd {ts gs : List Int} {g : Int} {n : Nat} (h : okTm ts n) (k : Nat) (hk : k ≤ n) : 0 ≤ lngF ts gs g k ∧ lngF ts gs g k ≤ 500 := by
  induction k with
  | zero => rw [lngF_zero]; omega
  | succ k ih =>
    have a := ih (by omega)
    have b := h k (by omega)
    rw [lngF_succ]; split <;> omega
def okGr (gs : List Int) (room : Int) (n k : Nat) : Prop := ∀ i, i < k → (0 ≤ el gs i ∧ el gs i ≤ 15) ∧ (cntF gs (el gs i) n : Int) ≤ room
instance (gs : List Int) (room : Int) (n k : Nat) : Decidable (okGr gs room n k) := by unfold okGr; infer_instance
theorem okGr_succ {gs : List Int} {room : Int} {n k : Nat} (h : okGr gs room n k) (h1 : (0 ≤ el gs k ∧ el gs k ≤ 15) ∧ (cntF gs (el gs k) n : Int) ≤ room) : okGr gs room n (k + 1) := fun i hi => by
  by_cases e : i = k
  · subst e; exact h1
  · exact h i (by omega)
@[irreducible] def fireOk (ts gs : List Int) (room : Int) : Bool := decide (okTm ts ts.length ∧ ts.length ≤ 16 ∧ gs.length = ts.length ∧ (1 ≤ room ∧ room ≤ 16) ∧ okGr gs room gs.length gs.length)
theorem fireOk_iff {ts gs : List Int} {room : Int} : fireOk ts gs room = true ↔ okTm ts ts.length ∧ ts.length ≤ 16 ∧ gs.length = ts.length ∧ (1 ≤ room ∧ room ≤ 16) ∧ okGr gs room gs.length gs.length := by unfold fireOk; simp
theorem fireOk_no {ts gs : List Int} {room : Int} (h : ¬ (okTm ts ts.length ∧ ts.length ≤ 16 ∧ gs.length = ts.length ∧ (1 ≤ room ∧ room ≤ 16) ∧ okGr gs room gs.length gs.length)) : fireOk ts gs room = false := by
  cases hg : fireOk ts gs room
  · rfl
  · exact absurd (fireOk_iff.1 hg) h
def fireI (ts gs : List Int) (room : Int) : Int := if fireOk ts gs room = true then sumTo (fun g => lngF ts gs g ts.length) 16 else -1
/-- a group that is full and gets one more has too many in the end -/
theorem full_no {gs : List Int} {room : Int} {k n : Nat} (hk : k < n) (hf : (cntF gs (el gs k) k : Int) = room) : ¬ okGr gs room n n := fun h => by
  have h1 := (h k hk).2
  have h2 := cntF_mono gs (el gs k) (show k + 1 ≤ n by omega)
  rw [cntF_succ, if_pos rfl] at h2
  omega
/-- no group was full when it got one more -/
def roomy (gs : List Int) (room : Int) (k : Nat) : Prop := (∀ i, i < k → 0 ≤ el gs i ∧ el gs i ≤ 15) ∧ ∀ x, (cntF gs x k : Int) ≤ room
theorem roomy_zero {gs : List Int} {room : Int} (h : 1 ≤ room) : roomy gs room 0 := ⟨fun i hi => by omega, fun x => by rw [cntF_zero]; omega⟩
theorem roomy_succ {gs : List Int} {room : Int} {k : Nat} (h : roomy gs room k) (h1 : 0 ≤ el gs k ∧ el gs k ≤ 15) (h2 : ¬ (cntF gs (el gs k) k : Int) = room) : roomy gs room (k + 1) := by
  refine ⟨fun i hi => ?_, fun x => ?_⟩
  · by_cases e : i = k
    · subst e; exact h1
    · exact h.1 i (by omega)
  · have := h.2 x
    rw [cntF_succ]
    by_cases e : el gs k = x
    · rw [if_pos e]; rw [e] at h2; omega
    · rw [if_neg e]; exact this
theorem roomy_ok {gs : List Int} {room : Int} {n : Nat} (h : roomy gs room n) : okGr gs room n n := fun i hi => ⟨h.1 i hi, h.2 _⟩
end Go.Proofs.Ytglglgfiifjejaa
