/- risesOf (impl); no statement is proved here. -/
import Derived.Test.YtglglgfiifjejaaStk
namespace Go.Proofs.Ytglglgfiifjejaa
open Go.ChangeShapes Go.WideShapes Go.ChangeAt Go.RowKit
set_option linter.unusedVariables false
set_option linter.unusedSimpArgs false

theorem mid_set {A Z : List Int} {x y : Int} {k : Nat} (h : A.length = k) : (A ++ x :: Z).set k y = A ++ y :: Z := by subst h; simp
theorem mid_el {A Z : List Int} {x : Int} {k : Nat} (h : A.length = k) : el (A ++ x :: Z) k = x := by subst h; simp [el, List.getD]
theorem mid_left {A Z : List Int} {j : Nat} (h : j < A.length) : el (A ++ Z) j = el A j := el_append_left h
@[irreducible] def rsA (zs : List Int) (k : Nat) : List Int := risesL zs k
@[irreducible] def rsX (zs : List Int) (k m : Nat) : Int := riseAt zs (risesL zs k) k m
theorem rsA_length (zs : List Int) (k : Nat) : (rsA zs k).length = k := by unfold rsA; exact risesL_length zs k
theorem rsA_succ (zs : List Int) (k : Nat) : rsA zs (k + 1) = rsA zs k ++ [rsX zs k k] := by unfold rsA rsX; rfl
theorem rsX_zero (zs : List Int) (k : Nat) : rsX zs k 0 = 1 := by unfold rsX; rfl
theorem rsX_yes {zs : List Int} {k m : Nat} (h : el zs m < el zs k) : rsX zs k (m + 1) = if rsX zs k m < el (rsA zs k) m + 1 then el (rsA zs k) m + 1 else rsX zs k m := by
  unfold rsX rsA
  conv => lhs; unfold riseAt
  rw [if_pos h]; split <;> omega
theorem rsX_no {zs : List Int} {k m : Nat} (h : ¬ el zs m < el zs k) : rsX zs k (m + 1) = rsX zs k m := by
  unfold rsX
  conv => lhs; unfold riseAt
  rw [if_neg h]
theorem rsA_bd {zs : List Int} {k j : Nat} (h : okT zs zs.length) (hk : k ≤ zs.length) (hj : j < k) : 1 ≤ el (rsA zs k) j ∧ el (rsA zs k) j ≤ k := by
  have g := greedy_good h hk
  have := greedy_bd h hk hj
  unfold rsA
  rw [g.rise j hj]
  omega
theorem zeros_cons {n k : Nat} (h : k < n) : List.replicate (n - k) (0 : Int) = 0 :: List.replicate (n - (k + 1)) 0 := by
  rw [show n - k = (n - (k + 1)) + 1 by omega, List.replicate_succ]
set_option maxHeartbeats 1000000 in
theorem risesOf_s {b off n cap : Nat} {zs : List Int} {w : World} (h : Sl w b off n cap zs) (ht : okT zs zs.length) :
    Calls Try.prog 104 #[.slice (some ⟨b, off, none⟩) n cap] w (FrC 3 n (rsA zs n) w) := by
  obtain ⟨i0, hi, hz0, hz1, hz2⟩ := info_parts Try.infoInt
  have hs := h.small
  have hc1 := h.cap1
  have hc2 := h.cap2
  unfold maxLen at hc2
  have HT := mkhid ht
  have HN := mkhid h.len
  clear ht
  go_enter Try.func104, Try.ntmps104
  go_wp2_with (refine wpList_make_full _ rfl _ _ 22 rfl w.heap.size 3 i0 (.int .i64 0) 1 Try.underlying22 hi hz0 hz1 .i64 .i64 _ _ n rfl rfl rfl rfl (by rw [hz2]; omega) (by unfold maxLen; omega) (Nat.le_refl _) ?_; intro w1 hown1 hgrow1)
  have ho1 : Own w1 w.heap.size 3 (.slice (some ⟨w.heap.size, 0, none⟩) n n) (rsA zs 0 ++ List.replicate (n - 0) 0) := by
    have e : (madeCells (Value.int IntKind.i64 0).cells (n * 1)).toList = (rsA zs 0 ++ List.replicate (n - 0) 0).map (Value.int .i64) := by
      rw [show (Value.int IntKind.i64 0).cells = #[Value.int IntKind.i64 0] from rfl, toList_madeCells_one]; unfold rsA; simp [risesL]
    have e2 : (rsA zs 0 ++ List.replicate (n - 0) (0 : Int)).length = n := by rw [List.length_append, rsA_length, List.length_replicate]; omega
    unfold Own
    rw [← e, e2]; exact hown1
  have hb1 : Below w.heap.size w w1 := (Below.refl _ _).grown hgrow1 (Nat.le_refl _) (fun k hk => by cases hk)
  clear hown1 hgrow1
  go_loopw [4, 5, 6, 7, 13, 25] (fun _ _ _ _ i _ wr => ∃ k : Nat, k ≤ n ∧ i = .int .i64 k ∧ Own wr w.heap.size 3 (.slice (some ⟨w.heap.size, 0, none⟩) n n) (rsA zs k ++ List.replicate (n - k) 0) ∧ Below w.heap.size w wr) (fun _ _ _ _ i _ _ => n - (intOf i).toNat)
  case atStart => exact ⟨0, Nat.zero_le _, rfl, ho1, hb1⟩
  case round =>
    obtain ⟨k, hk, rfl, ho, hbr⟩ := hrel
    clear ho1 hb1
    by_cases hlt : k < n
    · rw [zeros_cons hlt] at ho
      have hcell := (h.below hbr).cell hlt
      have i1 : (0 : Int) ≤ (k : Int) := by omega
      have i2 : (k : Int) < (n : Int) := by omega
      have i3 : (k : Int) ≤ (cap : Int) := by omega
      have f1 := (own_facts ho k).1 hlt
      have f2 := (own_facts ho k).2
      have P1 := own_set ho k 1
      rw [mid_set (rsA_length zs k), ← rsX_zero zs k] at P1
      have B1 := hbr.setCell (p := ⟨w.heap.size, k, none⟩) (Nat.le_refl _) (.int .i64 1)
      clear ho
      rw [rsX_zero] at P1
      go_wp2_with fail
      go_loopw [6, 7, 25] (fun _ _ i wr => ∃ m : Nat, m ≤ k ∧ i = .int .i64 m ∧ Own wr w.heap.size 3 (.slice (some ⟨w.heap.size, 0, none⟩) n n) (rsA zs k ++ rsX zs k m :: List.replicate (n - (k + 1)) 0) ∧ Below w.heap.size w wr) (fun _ _ i _ => k - (intOf i).toNat)
      case atStart => exact ⟨0, Nat.zero_le _, rfl, by rw [rsX_zero]; exact P1, B1⟩
      case round =>
        obtain ⟨m, hm, rfl, ho, hb2⟩ := hrel
        clear P1 B1 f1 f2 hcell hbr
        by_cases hmk : m < k
        · have c1 := (h.below hb2).cell (k := m) (by omega)
          have c2 := (h.below hb2).cell hlt
          have j1 : (0 : Int) ≤ (m : Int) := by omega
          have j2 : (m : Int) < (n : Int) := by omega
          have j3 : (m : Int) < (k : Int) := by omega
          have f1 := (own_facts ho k).1 hlt
          have f2 := (own_facts ho k).2
          have f3 := (own_facts ho m).1 (by omega)
          rw [mid_el (rsA_length zs k)] at f1
          rw [mid_left (by rw [rsA_length]; exact hmk)] at f3
          by_cases hx : el zs m < el zs k
          · have hx' : decide (el zs m < el zs k) = true := decide_eq_true hx
            have hbd := rsA_bd (k := k) (j := m) HT.out (by rw [HN.out]; omega) hmk
            have hsx := mkhid (rsX_yes hx)
            have P2 := own_set ho k (if rsX zs k m < el (rsA zs k) m + 1 then el (rsA zs k) m + 1 else rsX zs k m)
            rw [mid_set (rsA_length zs k)] at P2
            go_wp2_with fail
            go_region
            go_wp2
            go_roundw
            case rel => exact ⟨m + 1, by omega, by go_num, by rw [hsx.out]; (first | exact P2 | exact own_below P2 (below_of_drewN _ _) | exact own_below P2 ((Below.refl _ _).drew)), by (repeat' (first | exact Below.refl _ _ | refine Below.alloc ?_ ?_ _ | refine Below.setCell ?_ ?_ _ | refine Below.drew ?_ | refine below_drewN ?_ _ | refine Below.trans ?_ (Below.mono (by assumption) ?_))) <;> (try first | omega | (simp; done) | (simp at *; omega))⟩
            case measure => simp [intOf]; omega
          · have hx' : decide (el zs m < el zs k) = false := decide_eq_false hx
            have hsx := rsX_no hx
            rw [← hsx] at ho
            go_wp2
            go_roundw
            case rel => exact ⟨m + 1, by omega, by go_num, ho, hb2⟩
            case measure => simp [intOf]; omega
        · obtain rfl : m = k := by omega
          have e : rsA zs m ++ rsX zs m m :: List.replicate (n - (m + 1)) 0 = rsA zs (m + 1) ++ List.replicate (n - (m + 1)) 0 := by rw [rsA_succ]; simp
          rw [e] at ho
          go_wp2
          go_roundw
          case rel => exact ⟨m + 1, by omega, by go_num, ho, hb2⟩
          case measure => simp [intOf]; omega
    · obtain rfl : k = n := by omega
      rw [show k - k = 0 by omega, List.replicate_zero, List.append_nil] at ho
      go_wp2
      go_ret
      exact ⟨_, _, rfl, ho, hbr⟩
end Go.Proofs.Ytglglgfiifjejaa
