/- The laws' helpers backwards and total; no statement is proved here. -/
import Derived.Test.YtddpjgcodnfbjaaCopy
import Derived.Test.YtddpjgcodnfbjaaEq
namespace Go.Proofs.Ytddpjgcodnfbjaa
open Go.ChangeShapes Go.WideShapes Go.ChangeAt Go.RowKit
set_option linter.unusedVariables false
set_option linter.unusedSimpArgs false

theorem laws_backwards_s {b off n cap : Nat} {zs : List Int} {w : World} (h : Sl w b off n cap zs) :
    Calls Try.prog 30 #[.slice (some ⟨b, off, none⟩) n cap] w (FrN 3 zs.reverse w) := by
  obtain ⟨i0, hi, hz0, hz1, hz2⟩ := info_parts Try.infoInt
  have hs := h.small
  have HN : Hid (zs.length = n) := h.len
  have hown0 := own_empty w w.heap.size (Nat.le_refl _)
  go_enter Try.func30, Try.ntmps30
  go_wp2_with fail
  go_loopw [3, 4] (fun v i wr => ∃ k : Nat, k ≤ n ∧ i = .int .i64 ((n : Int) - 1 - k) ∧ wr.ownsRow w.heap.size 3 1 v k ((zs.reverse.take k).map (Value.int .i64)) ∧ Below w.heap.size w wr ∧ Hid (v ≠ .slice none 0 0)) (fun _ i _ => (intOf i + 1).toNat)
  case atStart => exact ⟨0, Nat.zero_le _, by simp, hown0, (Below.refl _ _).alloc (Nat.le_refl _) _, fun e => by cases e⟩
  case round =>
    obtain ⟨k, hk, rfl, ho, hbr, hnn⟩ := hrel
    clear hown0
    by_cases hlt : k < n
    · have hcell := (h.below hbr).cell (k := n - 1 - k) (by omega)
      have hbs := hbr.size
      have e1 : ((n : Int) - 1 - k).toNat = n - 1 - k := by omega
      go_wp2_with (at_builtin; refine wpList_append_own _ rfl (.tmp 13) (.tmp 18) 23 rfl w.heap.size 3 i0 (.int .i64 0) 1 8 Try.underlying23 hi hz0 hz1 hz2 rfl (by decide) _ k _ rfl (ho.alloc _) ⟨wr.heap.size, 0, none⟩ 1 1 [.int .i64 (el zs (n - 1 - k))] rfl rfl (cell_one_new _ _ _) (by intro u hu; simp at hu; subst hu; rfl) (by unfold maxLen; omega) (by omega) (by simp; omega) ?_; intro v1 w1 hown1 hgrow1 hnil1)
      have hb1 := below_append hbr ho (Nat.le_trans (Nat.le_refl _) hbs) hgrow1
      have ho1 : w1.ownsRow w.heap.size 3 1 v1 (k + 1) ((zs.reverse.take (k + 1)).map (Value.int .i64)) := by
        rw [← rev_step HN.out hlt, List.map_append]; exact hown1
      have hnn1 : Hid (v1 ≠ .slice none 0 0) := fun e => by have := (hnil1.1 e).2; cases this
      clear hown1 hgrow1 hnil1 ho hbr
      go_wp2
      go_roundw
      case rel => exact ⟨k + 1, by omega, by go_num, ho1, hb1, hnn1⟩
      case measure => simp [intOf]; omega
    · go_wp2
      go_ret
      refine FrN.of ?_ hnn.out hbr
      have hkn : k = n := by omega
      subst hkn
      rw [List.take_of_length_le (by simp [HN.out])] at ho
      unfold Own; rw [List.length_reverse, HN.out]; exact ho
theorem total_s {b off n cap : Nat} {zs : List Int} {w : World} (h : Sl w b off n cap zs) (hz : ∀ i, i < n → 0 ≤ el zs i ∧ el zs i ≤ 1000) : Calls Try.prog 31 #[.slice (some ⟨b, off, none⟩) n cap] w (Rs (.int .i64 (sumTo (el zs) n)) w) := by
  have hs := h.small
  have HZ := mkhid hz
  clear hz
  go_enter Try.func31, Try.ntmps31
  go_wp2_with fail
  go_loop [3, 4] (fun t i => ∃ k : Nat, k ≤ n ∧ i = .int .i64 k ∧ t = .int .i64 (sumTo (el zs) k)) (fun _ i => n - (intOf i).toNat)
  case atStart => exact ⟨0, Nat.zero_le _, rfl, rfl⟩
  case round =>
    obtain ⟨k, hk, rfl, rfl⟩ := hrel
    by_cases hlt : k < n
    · have hcell := h.cell hlt
      have hb := sumTo_bd (f := el zs) (n := k) (c := 1000) (fun i hi => HZ.out i (by omega))
      have hzk := HZ.out k hlt
      have hsu : Hid (sumTo (el zs) (k + 1) = sumTo (el zs) k + el zs k) := rfl
      obtain ⟨t, ht⟩ : ∃ t, t = sumTo (el zs) k := ⟨_, rfl⟩
      rw [← ht] at hb hsu ⊢
      obtain ⟨b1, b2⟩ := hb
      clear ht
      go_wp2
      go_round
      case rel => exact ⟨k + 1, by omega, by go_num, by rw [hsu.out]⟩
      case measure => simp [intOf]; omega
    · have hkn := mkhid (show k = n by omega)
      go_wp2
      go_ret
      exact ⟨ret_int (by rw [hkn.out]), rfl⟩
end Go.Proofs.Ytddpjgcodnfbjaa
