/- loads and goodBars of spec; no statement is proved here. -/
import Derived.Test.YtglglgfiifjejaaPlBars
import Derived.Test.YtglglgfiifjejaaBars
import Derived.Test.YtglglgfiifjejaaPuts
namespace Go.Proofs.Ytglglgfiifjejaa
open Go.ChangeShapes Go.WideShapes Go.ChangeAt Go.RowKit
set_option linter.unusedVariables false
set_option linter.unusedSimpArgs false

theorem ret_slice {p : Option Addr} {t t' c : Nat} (h : t = t') : Ending.returned (.slice p t c) = .returned (.slice p t' c) := by rw [h]
/-- the loads of the first t bars, after the first k lengths -/
def rowL (zs bs : List Int) (k t : Nat) : List Int := (List.range t).map fun j => ldF zs bs k j
theorem rowL_length (zs bs : List Int) (k t : Nat) : (rowL zs bs k t).length = t := by simp [rowL]
theorem rowL_el {zs bs : List Int} {k t j : Nat} (h : j < t) : el (rowL zs bs k t) j = ldF zs bs k j := by rw [el_get (by rw [rowL_length]; exact h)]; simp [rowL]
theorem rowL_more {zs bs : List Int} {k t : Nat} (h : tpF bs k ≤ t) : rowL zs bs k t ++ [0] = rowL zs bs k (t + 1) := by
  simp [rowL, List.range_succ, ldF_high h]
theorem rowL_set {zs bs : List Int} {k t x : Nat} (hx : el bs k = x) (h : x < t) : (rowL zs bs k t).set x (ldF zs bs k x + el zs k) = rowL zs bs (k + 1) t := by
  refine ext_el (by simp [rowL_length]) fun i hi => ?_
  have hi' : i < t := by simpa [rowL_length] using hi
  rw [el_set (by rw [rowL_length]; exact h), rowL_el hi', rowL_el hi', ldF_succ, hx]
  by_cases e : i = x
  · subst e; simp
  · rw [if_neg e, if_neg (by omega)]
theorem own_row {w : World} {B n : Nat} {E : TypeId} {v : Value} {zs : List Int} (h : Own w B E v zs) (hl : zs.length = n) : w.ownsRow B E 1 v n (zs.map (Value.int .i64)) := hl ▸ h
theorem own_row_app {w : World} {B n : Nat} {E : TypeId} {v : Value} {zs : List Int} {x : Int} (hl : zs.length = n) (h : w.ownsRow B E 1 v (n + 1) (zs.map (Value.int .i64) ++ [.int .i64 x])) : Own w B E v (zs ++ [x]) := own_app (hl.symm ▸ h)
theorem own_some {w : World} {B m : Nat} {E : TypeId} {v : Value} {zs : List Int} (ho : Own w B E v zs) (h0 : 0 < zs.length) (hl : zs.length = m) : ∃ g c, v = .slice (some ⟨g, 0, none⟩) m c := by
  rcases ho.forms with ⟨_, e⟩ | ⟨g, c, e, _⟩
  · rw [e] at h0; simp at h0
  · exact ⟨g, c, by rw [e, hl]⟩
def slLen : Value → Nat
  | .slice _ n _ => n
  | _ => 0
theorem tpF_next {bs : List Int} {k x t : Nat} (hx : el bs k = x) (h1 : tpF bs k ≤ t) (h2 : t ≤ max (tpF bs k) (x + 1)) (h3 : x < t) : t = tpF bs (k + 1) := by
  rw [tpF_succ, hx]; omega
set_option maxHeartbeats 1000000 in
theorem spec_loads_s {b off n cap b' off' cap' : Nat} {zs bs : List Int} {w : World} (h : Sl w b off n cap zs) (h' : Sl w b' off' n cap' bs) (hn : n ≤ 20)
    (hz : ∀ i, i < n → 1 ≤ el zs i ∧ el zs i ≤ 200) (hb : ∀ i, i < n → 0 ≤ el bs i ∧ el bs i < n) :
    Calls Try.prog 101 #[.slice (some ⟨b, off, none⟩) n cap, .slice (some ⟨b', off', none⟩) n cap'] w (FrC 3 (tpF bs n) (rowL zs bs n (tpF bs n)) w) := by
  obtain ⟨i0, hi, hz0, hz1, hz2⟩ := info_parts Try.infoInt
  have HZ := mkhid hz
  have HB := mkhid hb
  clear hz hb
  have ho0 : Own (w.alloc (.cells #[] 3)) w.heap.size 3 (.slice (some ⟨w.heap.size, 0, none⟩) 0 0) (rowL zs bs 0 0) := own_empty w w.heap.size (Nat.le_refl _)
  have hb0 : Below w.heap.size w (w.alloc (.cells #[] 3)) := (Below.refl _ _).alloc (Nat.le_refl _) _
  go_enter Try.func101, Try.ntmps101
  go_wp2_with fail
  go_loopw [5, 6] (fun o i wr => ∃ k t g c : Nat, k ≤ n ∧ i = .int .i64 k ∧ o = .slice (some ⟨g, 0, none⟩) t c ∧ Hid (t = tpF bs k) ∧ Own wr w.heap.size 3 (.slice (some ⟨g, 0, none⟩) t c) (rowL zs bs k t) ∧ Below w.heap.size w wr) (fun _ i _ => n - (intOf i).toNat)
  case atStart => exact ⟨0, 0, w.heap.size, 0, Nat.zero_le _, rfl, rfl, (tpF_zero bs).symm, ho0, hb0⟩
  case round =>
    obtain ⟨k, t, g, c, hk, rfl, rfl, ht, ho, hbr⟩ := hrel
    clear ho0 hb0
    by_cases hlt : k < n
    · have i1 : (0 : Int) ≤ (k : Int) := by omega
      have i2 : (k : Int) < (n : Int) := by omega
      obtain ⟨x, hx⟩ : ∃ x : Nat, el bs k = x := ⟨(el bs k).toNat, by have := HB.out k hlt; omega⟩
      have hxn : x < n := by have := HB.out k hlt; omega
      have HX := mkhid hx
      have ht20 := tpF_le (bs := bs) (n := n) (m := n) (fun i hi => (HB.out i hi).2) k hk (.inl (by omega))
      rw [← ht.out] at ht20
      have hT1 := mkhid (show tpF bs k ≤ t ∧ t ≤ max (tpF bs k) (x + 1) by rw [← ht.out]; omega)
      have hld := ldF_bd (zs := zs) (bs := bs) (c := 200) (n := n) HZ.out (by omega) k hk x
      have hzk := HZ.out k hlt
      clear hx ht
      obtain ⟨wo, hwo⟩ : ∃ wo : World, Hid (wo = wr) := ⟨_, rfl⟩
      rw [← hwo.out] at ho hbr
      go_wp2_with fail
      go_loopw [5] (fun o wr => ∃ t g c : Nat, o = .slice (some ⟨g, 0, none⟩) t c ∧ Hid (tpF bs k ≤ t ∧ t ≤ max (tpF bs k) (x + 1)) ∧ t ≤ n ∧ Own wr w.heap.size 3 (.slice (some ⟨g, 0, none⟩) t c) (rowL zs bs k t) ∧ Below w.heap.size w wr) (fun o _ => n - slLen o)
      case atStart => exact ⟨t, g, c, rfl, hT1, ht20, hwo.out ▸ ho, hwo.out ▸ hbr⟩
      case round =>
        obtain ⟨t, g, c, rfl, hT, htn, ho, hb2⟩ := hrel
        clear hbr hT1
        have c1 := (h.below hb2).cell hlt
        have c2 := (h'.below hb2).cell hlt
        rw [HX.out] at c2
        have hsz := hb2.size
        by_cases hle : t ≤ x
        · have d1 : decide ((t : Int) ≤ (x : Int)) = true := decide_eq_true (by omega)
          have hrow := own_row ho (rowL_length zs bs k t)
          go_wp2_with (at_builtin; refine wpList_append_own_at _ rfl _ _ 22 rfl w.heap.size 3 i0 (.int .i64 0) 1 8 Try.underlying22 hi hz0 hz1 hz2 rfl (by decide) _ t _ rfl (World.ownsRow.alloc hrow _) ⟨_, 0, none⟩ 1 1 [.int .i64 0] rfl rfl (cell_one_at _ _ _ _ (by first | rfl | simp)) (by intro u hu; simp at hu; subst hu; rfl) (by unfold maxLen; omega) (by omega) (by simp; omega) ?_; intro v1 w1 hown1 hgrow1 hnil1 hat1)
          have ha := own_row_app (rowL_length zs bs k t) hown1
          rw [rowL_more hT.out.1] at ha
          obtain ⟨g1, c1', rfl⟩ := own_some ha (by rw [rowL_length]; omega) (rowL_length zs bs k (t + 1))
          have hb3 := below_append hb2 hrow hsz hgrow1
          have hT2 := mkhid (show tpF bs k ≤ t + 1 ∧ t + 1 ≤ max (tpF bs k) (x + 1) by have := hT.out; omega)
          clear hown1 hgrow1 hnil1 hat1 ho hrow hT
          go_wp2
          go_roundw
          case rel => exact ⟨t + 1, g1, c1', rfl, hT2, by omega, ha, hb3⟩
          case measure => simp [slLen]; omega
        · have d1 : decide ((t : Int) ≤ (x : Int)) = false := decide_eq_false (by omega)
          have hxt : x < t := by omega
          have k1 : (0 : Int) ≤ (x : Int) := by omega
          have k2 : (x : Int) < (t : Int) := by omega
          have ef := (own_facts ho x).1 hxt
          have ff := (own_facts ho x).2
          rw [rowL_el hxt] at ef
          have hw1 : IntKind.i64.wrap (ldF zs bs k x + el zs k) = ldF zs bs k x + el zs k := IntWalk.i64_in _ (by omega)
          have P1 := own_set ho x (ldF zs bs k x + el zs k)
          rw [rowL_set HX.out hxt] at P1
          have hb3 := hb2.setCell (p := ⟨g, x, none⟩) (Own.at ho).2.1 (.int .i64 (ldF zs bs k x + el zs k))
          have hte := mkhid (tpF_next HX.out hT.out.1 hT.out.2 hxt)
          have hz := mkhid ht20
          go_wp2_with fail
          go_region
          all_goals go_wp2
          all_goals go_roundw
          case rel => exact ⟨k + 1, t, g, c, by omega, by go_num, rfl, hte, P1, (by first | exact hb3 | exact hb3.drew)⟩
          case measure => simp [intOf]; omega
    · have hkn := mkhid (show k = n by omega)
      have hfin := mkhid (show Own wr w.heap.size 3 (.slice (some ⟨g, 0, none⟩) (tpF bs n) c) (rowL zs bs n (tpF bs n)) by rw [← hkn.out, ← ht.out]; exact ho)
      have het := mkhid (show t = tpF bs n by rw [← hkn.out]; exact ht.out)
      go_wp2
      go_ret
      exact ⟨g, c, ret_slice het.out, hfin.out, hbr⟩
end Go.Proofs.Ytglglgfiifjejaa
