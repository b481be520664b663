/- FewestBars of spec; no statement is proved here. -/
import Derived.Test.YtimfabpigpcjhaaFewI
import Derived.Test.YtimfabpigpcjhaaGenI
namespace Go.Proofs.Ytimfabpigpcjhaa
open Go.ChangeShapes Go.WideShapes Go.ChangeAt Go.RowKit
set_option linter.unusedVariables false
set_option linter.unusedSimpArgs false

theorem inside_c (a b : Nat) (ha : a < 128) (hb : b < 128) (w : World) : Calls Try.prog 71 #[(.int .i64 ((a : Int))), (.int .i64 ((b : Int)))] w (Rs (.bool (sub a b)) w) := by
  go_enter Try.func71, Try.ntmps71
  go_wp2_with fail
  go_loop [0, 1] (fun x y => ∃ p q : Nat, p < 128 ∧ q < 128 ∧ x = .int .i64 p ∧ y = .int .i64 q ∧ Hid (sub a b = sub p q)) (fun x _ => (intOf x).toNat)
  case atStart => exact ⟨a, b, ha, hb, rfl, rfl, rfl⟩
  case round =>
    obtain ⟨p, q, hp, hq, rfl, rfl, HS⟩ := hrel
    by_cases h0 : 0 < p
    · have hst := sub_step p hp q hq h0
      have j1 : decide ((0 : Int) < (p : Int)) = true := decide_eq_true (by omega)
      by_cases h2 : q % 2 < p % 2
      · have j2 : decide ((q : Int) % 2 < (p : Int) % 2) = true := decide_eq_true (by omega)
        have hv : Hid (sub a b = false) := by show _ = _; rw [HS.out, hst, decide_eq_true h2]; rfl
        clear hst HS
        go_wp2
        go_ret
        exact ⟨ret_bool hv.out.symm, rfl⟩
      · have j2 : decide ((q : Int) % 2 < (p : Int) % 2) = false := decide_eq_false (by omega)
        have hv : Hid (sub a b = sub (p / 2) (q / 2)) := by show _ = _; rw [HS.out, hst, decide_eq_false h2]; rfl
        clear hst HS
        go_wp2
        go_round
        case rel => exact ⟨p / 2, q / 2, by omega, by omega, by simp, by simp, hv⟩
        case measure => simp [intOf]; omega
    · obtain rfl : p = 0 := by omega
      have hv : Hid (sub a b = true) := by show _ = _; rw [HS.out, sub_zero]
      clear HS
      go_wp2
      go_ret
      exact ⟨ret_bool hv.out.symm, rfl⟩
theorem own_setO {w : World} {B : Nat} {E : TypeId} {h n c g j : Nat} {zs : List Int} {u : Value} (ho : Own w B E (.slice (some ⟨h, 0, none⟩) n c) zs) (hne : h ≠ g) : Own (w.setCell ⟨g, j, none⟩ u) B E (.slice (some ⟨h, 0, none⟩) n c) zs :=
  ho.other (grown_setCell (World.grownBy.refl w _) u) hne
/-- the sums so far: of sets below s whole, of s its first k -/
def SumI (zs : List Int) (n N : Nat) (X : List Int) (s k : Nat) : Prop := X.length = N ∧ (∀ j, j < s → el X j = bsS zs j n) ∧ el X s = bsS zs s k ∧ ∀ j, s < j → j < N → el X j = 0
theorem sumI_set {zs : List Int} {n N : Nat} {X : List Int} {s k : Nat} (h : SumI zs n N X s k) (hs : s < N) {u : Int} (hu : u = bsS zs s (k + 1)) : SumI zs n N (X.set s u) s (k + 1) := by
  obtain ⟨a, b, c, d⟩ := h
  have hsX : s < X.length := by omega
  exact ⟨by rw [List.length_set]; exact a, fun j hj => by rw [el_set hsX, if_neg (by omega)]; exact b j hj, by rw [el_set hsX, if_pos rfl, hu], fun j h1 h2 => by rw [el_set hsX, if_neg (by omega)]; exact d j h1 h2⟩
theorem sumI_same {zs : List Int} {n N : Nat} {X : List Int} {s k : Nat} (h : SumI zs n N X s k) (hb : bt s k = false) : SumI zs n N X s (k + 1) := ⟨h.1, h.2.1, by rw [bsS_no hb]; exact h.2.2.1, h.2.2.2⟩
theorem sumI_next {zs : List Int} {n N : Nat} {X : List Int} {s : Nat} (h : SumI zs n N X s n) (hs : s + 1 < N) : SumI zs n N X (s + 1) 0 := by
  obtain ⟨a, b, c, d⟩ := h
  refine ⟨a, fun j hj => ?_, ?_, fun j h1 h2 => d j (by omega) h2⟩
  · rcases Nat.lt_succ_iff_lt_or_eq.1 hj with e | e
    · exact b j e
    · subst e; exact c
  · rw [bsS_zero]; exact d _ (by omega) hs
theorem stepS {f : Nat → Bool} {Y : List Int} {s c n : Nat} (hl : s < Y.length) (hc : c + 1 ≤ s) (hsub : sub (c + 1) s = true) (hb : Best ((n : Int) + 1) f (el Y) s (c + 1) (el Y s)) (hf : f (c + 1) = true)
    (hp : el Y (s - (c + 1)) ≤ n) (m : Int) (hm : m = if 1 + el Y (s - (c + 1)) < el Y s then 1 + el Y (s - (c + 1)) else el Y s) : Best ((n : Int) + 1) f (el (Y.set s m)) s c (el (Y.set s m) s) := by
  rw [set_at hl]
  refine best_congr ?_ (fun k hk => set_small hl k hk)
  by_cases h : 1 + el Y (s - (c + 1)) ≤ el Y s
  · have : m = 1 + el Y (s - (c + 1)) := by rw [hm]; split <;> omega
    rw [this]
    exact best_take hb (gap_one _ _) (by omega) hc hsub hf (.inr h)
  · have : m = el Y s := by rw [hm]; split <;> omega
    rw [this]
    exact best_keep hb (gap_one _ _) (by omega) (by omega) (by omega)
end Go.Proofs.Ytimfabpigpcjhaa
