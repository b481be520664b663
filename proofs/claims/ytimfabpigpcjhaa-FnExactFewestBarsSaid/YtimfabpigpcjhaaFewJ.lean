/- FewestBars of impl; no statement is proved here. -/
import Derived.Test.YtimfabpigpcjhaaFewI
namespace Go.Proofs.Ytimfabpigpcjhaa
open Go.ChangeShapes Go.WideShapes Go.ChangeAt Go.RowKit
set_option linter.unusedVariables false
set_option linter.unusedSimpArgs false

set_option maxHeartbeats 1000000 in
theorem impl_FewestBars_s {b off n cap : Nat} {zs : List Int} {bar : Int} {w : World} (h : Sl w b off n cap zs) :
    Calls Try.prog 31 #[.slice (some ⟨b, off, none⟩) n cap, (.int .i64 bar)] w (Rt (.int .i64 (fewR zs bar)) w) := by
  have hmf : ∀ (fn : Fn) (first cap : Array Value) (w : World), (Instr.makeFunc fn first cap).run Try.prog w = .ok (.func fn first cap) w := fun _ _ _ _ => rfl
  have HL := mkhid h.len
  have hsm := h.small
  have CB := fun (w' : World) (hb : Below w.heap.size w w') => impl_barLengths_s (bar := bar) (mx := 7) (h.below hb)
  cases hv : vBar zs bar 7
  · have hn := mkhid (fewR_no hv)
    rw [hv] at CB
    go_enter Try.func31, Try.ntmps31
    go_wp2_with fail
    go_at_call 60
    refine (CB _ (by (repeat' (first | exact Below.refl _ _ | refine Below.alloc ?_ ?_ _ | refine Below.setCell ?_ ?_ _ | refine Below.drew ?_ | refine below_drewN ?_ _ | refine Below.trans ?_ (Below.mono (by assumption) ?_))) <;> (try first | omega | (simp; done) | (simp at *; omega)))).mono ?_
    rintro e w1 ⟨rfl, rfl⟩
    go_wp2_with fail
    go_ret
    exact ⟨ret_int hn.out.symm, by (repeat' (first | exact Below.refl _ _ | refine Below.alloc ?_ ?_ _ | refine Below.setCell ?_ ?_ _ | refine Below.drew ?_ | refine below_drewN ?_ _ | refine Below.trans ?_ (Below.mono (by assumption) ?_))) <;> (try first | omega | (simp; done) | (simp at *; omega))⟩
  · rw [hv] at CB
    obtain ⟨⟨v1, v2, v3⟩, v4⟩ := vBar_iff.1 hv
    have hn : Hid (fewR zs bar = few (ft zs n bar) (2 ^ n)) := by show _ = _; unfold fewR; rw [if_pos hv, HL.out]
    rw [HL.out] at v3 v4
    have hn7 : n ≤ 7 := by omega
    have how : okW zs n := fun i hi => by have := v4 i hi; omega
    have CG := fun (w' : World) (hb : Below w.heap.size w w') => impl_fewestGroups_s (h.below hb) hn7 how bar
    clear hv
    go_enter Try.func31, Try.ntmps31
    go_wp2_with fail
    go_at_call 60
    refine (CB _ (by (repeat' (first | exact Below.refl _ _ | refine Below.alloc ?_ ?_ _ | refine Below.setCell ?_ ?_ _ | refine Below.drew ?_ | refine below_drewN ?_ _ | refine Below.trans ?_ (Below.mono (by assumption) ?_))) <;> (try first | omega | (simp; done) | (simp at *; omega)))).mono ?_
    rintro e w1 ⟨rfl, rfl⟩
    go_wp2_with fail
    go_at_call 61
    refine Calls.mono (CG _ (by (repeat' (first | exact Below.refl _ _ | refine Below.alloc ?_ ?_ _ | refine Below.setCell ?_ ?_ _ | refine Below.drew ?_ | refine below_drewN ?_ _ | refine Below.trans ?_ (Below.mono (by assumption) ?_))) <;> (try first | omega | (simp; done) | (simp at *; omega))) _ _ v4 ?c1 ?c2 ?l1 ?l2) ?_
    case c1 => go_simp
    case c2 => go_simp
    case l1 => simp <;> omega
    case l2 => simp <;> omega
    rintro e w1 ⟨rfl, hb1⟩
    go_wp2_with fail
    go_ret
    exact ⟨ret_int hn.out.symm, by (repeat' (first | exact Below.refl _ _ | refine Below.alloc ?_ ?_ _ | refine Below.setCell ?_ ?_ _ | refine Below.drew ?_ | refine below_drewN ?_ _ | refine Below.trans ?_ (Below.mono (by assumption) ?_))) <;> (try first | omega | (simp; done) | (simp at *; omega))⟩
end Go.Proofs.Ytimfabpigpcjhaa
