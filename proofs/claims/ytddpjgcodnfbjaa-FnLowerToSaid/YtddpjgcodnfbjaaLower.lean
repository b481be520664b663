/- LowerTo (spec and impl), and the walk of its exact law; no statement is proved here. -/
import Derived.Test.YtddpjgcodnfbjaaSums2
namespace Go.Proofs.Ytddpjgcodnfbjaa
open Go.ChangeShapes Go.WideShapes Go.ChangeAt Go.RowKit
set_option linter.unusedVariables false
set_option linter.unusedSimpArgs false

@[irreducible] def lowI (zs : List Int) (a : Int) : Int := if vLen zs = true ∧ 0 ≤ a ∧ a ≤ 200 then el (sums zs zs.length (a.toNat + 1)) ((sums zs zs.length (a.toNat + 1)).length - 1) else -1
theorem spec_lowerTo_s {b off n cap l : Nat} {zs : List Int} {w : World} (h : Sl w b off n cap zs) (hok : okLen zs n) (hl : l ≤ 200) :
    Calls Try.prog 72 #[.slice (some ⟨b, off, none⟩) n cap, (.int .i64 ((l : Int)))] w (Rt (.int .i64 (el (sums zs n (l + 1)) ((sums zs n (l + 1)).length - 1))) w) := by
  have hso := spec_sumsOf_s (lim := l) h hok hl
  have hp := sums_pos zs n (k := l + 1) (by omega)
  have hle := sums_length zs n (l + 1)
  obtain ⟨S, hS⟩ : ∃ S, S = sums zs n (l + 1) := ⟨_, rfl⟩
  rw [← hS] at hso hp hle ⊢
  obtain ⟨m, hm⟩ : ∃ m, S.length = m := ⟨_, rfl⟩
  have HM := mkhid hm
  rw [hm] at hp hle
  rw [hm]
  have hso' : Calls Try.prog 74 #[.slice (some ⟨b, off, none⟩) n cap, (.int .i64 ((l : Int)))] w (FrC 3 m S w) := FrN.c hm hso
  have e1 : ((m : Int) - 1).toNat = m - 1 := by omega
  have e2 : (0 : Int) ≤ (m : Int) - 1 := by omega
  have e3 : (m : Int) - 1 < (m : Int) := by omega
  clear hS hm hso
  go_enter Try.func72, Try.ntmps72
  go_wp2_with (go_at_call 74; refine hso'.mono ?_; rintro e w1 ⟨g, c, rfl, ho, hb⟩; have f1 := (own_facts ho (m - 1)).1 (by omega))
  go_ret
  exact ⟨rfl, hb⟩
theorem spec_LowerTo_s {b off n cap : Nat} {zs : List Int} {a : Int} {w : World} (h : Sl w b off n cap zs) :
    Calls Try.prog 34 #[.slice (some ⟨b, off, none⟩) n cap, (.int .i64 a)] w (Rt (.int .i64 (lowI zs a)) w) := by
  have hvl := spec_validLengths_s h
  by_cases hc : vLen zs = true
  · rw [hc] at hvl
    by_cases ha : 0 ≤ a ∧ a ≤ 200
    · obtain ⟨l, rfl⟩ : ∃ l : Nat, a = l := ⟨a.toNat, by omega⟩
      have e := mkhid (show lowI zs l = el (sums zs n (l + 1)) ((sums zs n (l + 1)).length - 1) by unfold lowI; rw [if_pos ⟨hc, ha⟩, h.len]; simp)
      have hin := inR_yes ha
      have hso := spec_lowerTo_s (l := l) h (by have := (vLen_iff.1 hc).2; rwa [h.len] at this) (by omega)
      rw [← e.out] at hso
      clear hc ha
      go_enter Try.func34, Try.ntmps34
      go_wp2_with (first | (go_at_call 71; refine hvl.mono ?_; rintro e w1 ⟨rfl, rfl⟩) | (go_at_call 63; refine (inRange_c _ _ _ _).mono ?_; rintro e w1 ⟨rfl, rfl⟩) | (go_at_call 72; refine hso.mono ?_; rintro e w1 ⟨rfl, hb⟩))
      go_ret
      exact ⟨rfl, hb⟩
    · have e := mkhid (show lowI zs a = -1 by unfold lowI; rw [if_neg (fun hh => ha hh.2)])
      have hin := inR_no ha
      clear ha hc
      go_enter Try.func34, Try.ntmps34
      go_wp2_with (first | (go_at_call 71; refine hvl.mono ?_; rintro e w1 ⟨rfl, rfl⟩) | (go_at_call 63; refine (inRange_c _ _ _ _).mono ?_; rintro e w1 ⟨rfl, rfl⟩))
      go_ret
      exact ⟨ret_int e.out.symm, Below.refl _ _⟩
  · have hc' : vLen zs = false := by simpa using hc
    have e := mkhid (show lowI zs a = -1 by unfold lowI; rw [if_neg (fun hh => hc hh.1)])
    rw [hc'] at hvl
    clear hc hc'
    go_enter Try.func34, Try.ntmps34
    go_wp2_with (go_at_call 71; refine hvl.mono ?_; rintro e w1 ⟨rfl, rfl⟩)
    go_ret
    exact ⟨ret_int e.out.symm, Below.refl _ _⟩
theorem impl_LowerTo_s {b off n cap : Nat} {zs : List Int} {a : Int} {w : World} (h : Sl w b off n cap zs) :
    Calls Try.prog 33 #[.slice (some ⟨b, off, none⟩) n cap, (.int .i64 a)] w (Rt (.int .i64 (lowI zs a)) w) := by
  have hso := impl_SumsOf_s (a := a) h
  by_cases hc : vLen zs = true ∧ 0 ≤ a ∧ a ≤ 200
  · obtain ⟨S, hS⟩ : ∃ S, S = sumsR zs a := ⟨_, rfl⟩
    have e1 : sumsR zs a = sums zs zs.length (a.toNat + 1) := by unfold sumsR; rw [if_pos hc]
    have hp := sums_pos zs zs.length (k := a.toNat + 1) (by omega)
    have hle := sums_length zs zs.length (a.toNat + 1)
    have e := show lowI zs a = el (sums zs zs.length (a.toNat + 1)) ((sums zs zs.length (a.toNat + 1)).length - 1) by unfold lowI; rw [if_pos hc]
    rw [← e1, ← hS] at hp hle e
    rw [← hS] at hso
    obtain ⟨m, hm⟩ : ∃ m, S.length = m := ⟨_, rfl⟩
    rw [hm] at hp hle e
    have HM := mkhid hm
    have HE := mkhid e
    have q0 : ((m : Int) == 0) = false := by simp; omega
    have q1 : ((m : Int) - 1).toNat = m - 1 := by omega
    have q2 : (0 : Int) ≤ (m : Int) - 1 := by omega
    have q3 : (m : Int) - 1 < (m : Int) := by omega
    have hso' : Calls Try.prog 35 #[.slice (some ⟨b, off, none⟩) n cap, (.int .i64 a)] w (FrC 3 m S w) := hso.mono (by
      rintro e w' ⟨v, rfl, ho, hb⟩
      rcases ho.forms with ⟨rfl, e0⟩ | ⟨g, c, rfl, _⟩
      · rw [e0] at hm; simp at hm; omega
      · exact ⟨g, c, by rw [hm], hm ▸ ho, hb⟩)
    have hm200 : m ≤ 300 := by omega
    clear hS hso e1 e hm hc hle
    go_enter Try.func33, Try.ntmps33
    go_wp2_with (go_at_call 35; refine hso'.mono ?_; rintro e w1 ⟨g, c, rfl, ho, hb⟩; have f1 := (own_facts ho (m - 1)).1 (by omega))
    go_ret
    exact ⟨ret_int HE.out.symm, hb⟩
  · have e := mkhid (show lowI zs a = -1 by unfold lowI; rw [if_neg hc])
    have e1 : sumsR zs a = [] := by unfold sumsR; rw [if_neg hc]
    rw [e1] at hso
    have hso' : Calls Try.prog 35 #[.slice (some ⟨b, off, none⟩) n cap, (.int .i64 a)] w (fun e w' => ∃ p c, e = .returned (.slice p 0 c) ∧ Below w.heap.size w w') := hso.mono (by
      rintro e w' ⟨v, rfl, ho, hb⟩
      rcases ho.forms with ⟨rfl, _⟩ | ⟨g, c, rfl, _⟩
      · exact ⟨_, _, rfl, hb⟩
      · exact ⟨_, _, rfl, hb⟩)
    clear hso e1 hc
    go_enter Try.func33, Try.ntmps33
    go_wp2_with (go_at_call 35; refine hso'.mono ?_; rintro e w1 ⟨p, c, rfl, hb⟩)
    go_ret
    exact ⟨ret_int e.out.symm, hb⟩

end Go.Proofs.Ytddpjgcodnfbjaa
