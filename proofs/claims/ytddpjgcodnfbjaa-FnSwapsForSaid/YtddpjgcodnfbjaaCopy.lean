/- Copies of slices: copyInts, backwards (spec), slices.Clone; no statement is proved here. -/
import Derived.Test.YtddpjgcodnfbjaaTurn
import Derived.WalkSpells
namespace Go.Proofs.Ytddpjgcodnfbjaa
open Go.ChangeShapes Go.WideShapes Go.ChangeAt Go.RowKit
set_option linter.unusedVariables false
set_option linter.unusedSimpArgs false

/-- an empty slice that is not nil owns its empty row -/
theorem own_empty (w : World) (B : Nat) (hB : B ≤ w.heap.size) : Own (w.alloc (.cells #[] 3)) B 3 (.slice (some ⟨w.heap.size, 0, none⟩) 0 0) [] :=
  World.ownsRow_lit (size := 1) w #[] 0 hB (by unfold maxLen; omega) rfl
theorem ints_cells {w : World} {b off : Nat} {zs : List Int} (h : IntsAt w b off zs) : ∀ j u, (zs.map (Value.int .i64))[j]? = some u → w.cell? ((⟨b, off, none⟩ : Addr).add j) = some u := by
  intro j u hu
  rw [List.getElem?_map] at hu
  cases hz : zs[j]? with
  | none => rw [hz] at hu; cases hu
  | some z =>
    rw [hz] at hu
    obtain rfl := Option.some.inj hu
    have hj : j < zs.length := (List.getElem?_eq_some_iff.1 hz).1
    rw [Go.WideShapes.add_plain, h j hj, el_get hj]
    obtain ⟨_, he⟩ := List.getElem?_eq_some_iff.1 hz
    rw [he]
theorem ints_one (zs : List Int) : ∀ u ∈ zs.map (Value.int .i64), u.oneCell' = true := by
  intro u hu
  obtain ⟨z, _, rfl⟩ := List.mem_map.1 hu
  rfl
theorem spec_copyInts_s {b off n cap : Nat} {zs : List Int} {w : World} (h : Sl w b off n cap zs) :
    Calls Try.prog 65 #[.slice (some ⟨b, off, none⟩) n cap] w (FrN 3 zs w) := by
  obtain ⟨i0, hi, hz0, hz1, hz2⟩ := info_parts Try.infoInt
  have hs := h.small
  have hown0 := own_empty w w.heap.size (Nat.le_refl _)
  have hlen : (zs.map (Value.int .i64)).length = n * 1 := by rw [List.length_map, h.len]; omega
  have hcells := ints_cells (h.below ((Below.refl w.heap.size w).alloc (Nat.le_refl _) (.cells #[] 3))).ints
  have hmax : 0 + n ≤ maxLen := by unfold maxLen; omega
  have hbytes : (0 + n) * 8 ≤ 140737488355328 := by omega
  have hbase : w.heap.size ≤ (w.alloc (.cells #[] 3)).heap.size := by simp
  go_enter Try.func65, Try.ntmps65
  go_wp2_with (at_builtin; refine wpList_append_own _ rfl (.tmp 3) (.tmp 4) 23 rfl w.heap.size 3 i0 (.int .i64 0) 1 8 Try.underlying23 hi hz0 hz1 hz2 rfl (by decide) _ 0 [] rfl hown0 ⟨b, off, none⟩ n cap (zs.map (Value.int .i64)) rfl hlen hcells (ints_one zs) hmax hbytes hbase ?_; intro v1 w1 hown1 hgrow1 hnil1)
  go_wp2
  go_ret
  refine FrN.of ?_ (fun e => by have := (hnil1.1 e).1; cases this) ?_
  · unfold Own; rw [h.len]
    rw [Nat.zero_add, List.nil_append] at hown1
    exact hown1
  · exact ((Below.refl w.heap.size w).alloc (Nat.le_refl _) _).grown hgrow1 (by simp) (fun k hk => by cases hk; exact Nat.le_refl _)
theorem sClone_s {b off n cap : Nat} {zs : List Int} {w : World} (h : Sl w b off n cap zs) :
    Calls Try.prog 61 #[.slice (some ⟨b, off, none⟩) n cap] w (FrN 3 zs w) := by
  obtain ⟨i0, hi, hz0, hz1, hz2⟩ := info_parts Try.infoInt
  have hs := h.small
  have hown0 := own_empty w w.heap.size (Nat.le_refl _)
  have hlen : (zs.map (Value.int .i64)).length = n * 1 := by rw [List.length_map, h.len]; omega
  have hcells := ints_cells (h.below ((Below.refl w.heap.size w).alloc (Nat.le_refl _) (.cells #[] 3))).ints
  have hmax : 0 + n ≤ maxLen := by unfold maxLen; omega
  have hbytes : (0 + n) * 8 ≤ 140737488355328 := by omega
  have hbase : w.heap.size ≤ (w.alloc (.cells #[] 3)).heap.size := by simp
  have hnl := fun (wx : World) => Lib.run_eql_slice_nil (P := Try.prog) wx 23 3 (some ⟨b, off, none⟩) n cap 0 0 Try.underlying23
  go_enter Try.func61, Try.ntmps61
  go_wp2_with (at_builtin; refine wpList_append_own _ rfl (.tmp 5) (.tmp 6) 23 rfl w.heap.size 3 i0 (.int .i64 0) 1 8 Try.underlying23 hi hz0 hz1 hz2 rfl (by decide) _ 0 [] rfl hown0 ⟨b, off, none⟩ n cap (zs.map (Value.int .i64)) rfl hlen hcells (ints_one zs) hmax hbytes hbase ?_; intro v1 w1 hown1 hgrow1 hnil1)
  go_wp2
  go_ret
  refine FrN.of ?_ (fun e => by have := (hnil1.1 e).1; cases this) ?_
  · unfold Own; rw [h.len]
    rw [Nat.zero_add, List.nil_append] at hown1
    exact hown1
  · exact ((Below.refl w.heap.size w).alloc (Nat.le_refl _) _).grown hgrow1 (by simp) (fun k hk => by cases hk; exact Nat.le_refl _)
/-- a copy, its length as the argument has it -/
def FrC (E : TypeId) (n : Nat) (zs : List Int) (w : World) : Ending → World → Prop := fun e w' => ∃ g c, e = .returned (.slice (some ⟨g, 0, none⟩) n c) ∧ Own w' w.heap.size E (.slice (some ⟨g, 0, none⟩) n c) zs ∧ Below w.heap.size w w'
theorem FrN.c {P : Program} {f : FuncId} {args : Array Value} {E : TypeId} {n : Nat} {zs : List Int} {w : World} (hn : zs.length = n) (h : Calls P f args w (FrN E zs w)) : Calls P f args w (FrC E n zs w) := by
  subst hn; exact h
/-- a list in reverse -/
theorem rev_el {zs : List Int} {n i : Nat} (hn : zs.length = n) (h : i < n) : el zs.reverse i = el zs (n - 1 - i) := by
  rw [el_get (by simp; omega), el_get (by omega), List.getElem_reverse]
  congr 1
  omega
theorem rev_step {zs : List Int} {n k : Nat} (hn : zs.length = n) (h : k < n) : zs.reverse.take k ++ [el zs (n - 1 - k)] = zs.reverse.take (k + 1) := by
  have hk : k < zs.reverse.length := by simp; omega
  rw [List.take_succ_eq_append_getElem hk, ← rev_el hn h, el_get hk]
theorem spec_backwards_s {b off n cap : Nat} {zs : List Int} {w : World} (h : Sl w b off n cap zs) :
    Calls Try.prog 82 #[.slice (some ⟨b, off, none⟩) n cap] w (FrN 3 zs.reverse w) := by
  obtain ⟨i0, hi, hz0, hz1, hz2⟩ := info_parts Try.infoInt
  have hs := h.small
  have HN : Hid (zs.length = n) := h.len
  have hown0 := own_empty w w.heap.size (Nat.le_refl _)
  go_enter Try.func82, Try.ntmps82
  go_wp2_with fail
  go_loopw [3, 4] (fun v i wr => ∃ k : Nat, k ≤ n ∧ i = .int .i64 ((n : Int) - 1 - k) ∧ wr.ownsRow w.heap.size 3 1 v k ((zs.reverse.take k).map (Value.int .i64)) ∧ Below w.heap.size w wr ∧ Hid (v ≠ .slice none 0 0)) (fun _ i _ => (intOf i + 1).toNat)
  case atStart => exact ⟨0, Nat.zero_le _, by simp, hown0, (Below.refl _ _).alloc (Nat.le_refl _) _, fun e => by cases e⟩
  case round =>
    obtain ⟨k, hk, rfl, ho, hbr, hnn⟩ := hrel
    clear hown0
    by_cases hlt : k < n
    · have hcell := (h.below hbr).cell (k := n - 1 - k) (by omega)
      have hbs := hbr.size
      have e1 : ((n : Int) - 1 - k).toNat = n - 1 - k := by omega
      go_wp2_with (at_builtin; refine wpList_append_own _ rfl (.tmp 13) (.tmp 18) 23 rfl w.heap.size 3 i0 (.int .i64 0) 1 8 Try.underlying23 hi hz0 hz1 hz2 rfl (by decide) _ k _ rfl (ho.alloc _) ⟨wr.heap.size, 0, none⟩ 1 1 [.int .i64 (el zs (n - 1 - k))] rfl rfl (cell_one_new _ _ _) (by intro u hu; simp at hu; subst hu; rfl) (by unfold maxLen; omega) (by omega) (by simp; omega) ?_; intro v1 w1 hown1 hgrow1 hnil1)
      have hb1 := below_append hbr ho (Nat.le_trans (Nat.le_refl _) hbs) hgrow1
      have ho1 : w1.ownsRow w.heap.size 3 1 v1 (k + 1) ((zs.reverse.take (k + 1)).map (Value.int .i64)) := by
        rw [← rev_step HN.out hlt, List.map_append]; exact hown1
      have hnn1 : Hid (v1 ≠ .slice none 0 0) := fun e => by have := (hnil1.1 e).2; cases this
      clear hown1 hgrow1 hnil1 ho hbr
      go_wp2
      go_roundw
      case rel => exact ⟨k + 1, by omega, by go_num, ho1, hb1, hnn1⟩
      case measure => simp [intOf]; omega
    · go_wp2
      go_ret
      refine FrN.of ?_ hnn.out hbr
      have hkn : k = n := by omega
      subst hkn
      rw [List.take_of_length_le (by simp [HN.out])] at ho
      unfold Own; rw [List.length_reverse, HN.out]; exact ho
end Go.Proofs.Ytddpjgcodnfbjaa
