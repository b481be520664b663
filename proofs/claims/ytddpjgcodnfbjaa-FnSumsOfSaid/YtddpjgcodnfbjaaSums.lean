/- SumsOf and LowerTo of spec; no statement is proved here. -/
import Derived.Test.YtddpjgcodnfbjaaPlSums
import Derived.Test.YtddpjgcodnfbjaaPuts
namespace Go.Proofs.Ytddpjgcodnfbjaa
open Go.ChangeShapes Go.WideShapes Go.ChangeAt Go.RowKit
set_option linter.unusedVariables false
set_option linter.unusedSimpArgs false

theorem spec_validLengths_s {b off n cap : Nat} {zs : List Int} {w : World} (h : Sl w b off n cap zs) :
    Calls Try.prog 71 #[.slice (some ⟨b, off, none⟩) n cap] w (Rs (.bool (vLen zs)) w) := by
  have hs := h.small
  have HN : Hid (zs.length = n) := h.len
  go_enter Try.func71, Try.ntmps71
  go_wp2_with fail
  go_loop [3] (fun i => ∃ k : Nat, k ≤ n ∧ i = .int .i64 k ∧ okLen zs k) (fun i => n - (intOf i).toNat)
  case atStart => exact ⟨0, Nat.zero_le _, rfl, fun i hi => by omega⟩
  case round =>
    obtain ⟨k, hk, rfl, HB⟩ := hrel
    by_cases hlt : k < n
    · have hcell := h.cell hlt
      by_cases h1 : 1 ≤ el zs k ∧ el zs k ≤ 200
      · have hin := inR_yes h1
        have hok := okLen_succ HB h1
        go_wp2_with (go_at_call 63; refine (inRange_c _ _ _ _).mono ?_; rintro e w1 ⟨rfl, rfl⟩)
        go_round
        case rel => exact ⟨k + 1, by omega, by go_num, hok⟩
        case measure => simp [intOf]; omega
      · have hin := inR_no h1
        have hv : Hid (vLen zs = false) := vLen_no (by rw [HN.out]; exact hlt) h1
        go_wp2_with (go_at_call 63; refine (inRange_c _ _ _ _).mono ?_; rintro e w1 ⟨rfl, rfl⟩)
        go_ret
        exact ⟨ret_bool hv.out.symm, rfl⟩
    · have hkn : k = n := by omega
      have hv : Hid (vLen zs = decide (n ≤ 24)) := by
        show _ = _
        rw [vLen_ok (by rw [HN.out, ← hkn]; exact HB), HN.out]
      clear hkn
      go_wp2
      go_ret
      exact ⟨ret_bool (by rw [hv.out]; first | rfl | exact decide_eq_decide.2 (by omega)), rfl⟩
/-- a row of bools that the call made: the first k are told by f, the others are false -/
def OwnB (w : World) (B : Nat) (g N : Nat) (f : Nat → Bool) : Prop := w.ownsRow B 4 1 (.slice (some ⟨g, 0, none⟩) N N) N ((List.range N).map fun i => Value.bool (f i))
theorem OwnB.below {W w : World} {B g N : Nat} {f : Nat → Bool} (h : OwnB W B g N f) (hb : Below W.heap.size W w) : OwnB w B g N f := own_below h hb
theorem OwnB.facts {w : World} {B g N : Nat} {f : Nat → Bool} (h : OwnB w B g N f) (i : Nat) : (i < N → w.cell? ⟨g, i, none⟩ = some (.bool (f i))) ∧ w.frozen? ⟨g, i, none⟩ = false := by
  refine ⟨fun hi => ?_, World.ownsRow.frozenAt h i⟩
  have := World.ownsRow.cellAt h i (by omega)
  rw [this]; simp [hi]
theorem OwnB.congr {w : World} {B g N : Nat} {f f' : Nat → Bool} (h : OwnB w B g N f) (he : ∀ i, i < N → f i = f' i) : OwnB w B g N f' := by
  have e : ((List.range N).map fun i => Value.bool (f i)) = (List.range N).map fun i => Value.bool (f' i) := List.map_congr_left fun i hi => by rw [he i (List.mem_range.1 hi)]
  unfold OwnB at *; rw [← e]; exact h
theorem OwnB.set {w : World} {B g N : Nat} {f : Nat → Bool} (h : OwnB w B g N f) (j : Nat) (u : Bool) : OwnB (w.setCell ⟨g, j, none⟩ (.bool u)) B g N (fun i => if i = j then u else f i) := by
  have := (World.ownsRow.stored h j (.bool u)).1
  unfold OwnB
  have e : ((List.range N).map fun i => Value.bool (f i)).set j (.bool u) = (List.range N).map fun i => Value.bool (if i = j then u else f i) := by
    apply List.ext_getElem
    · simp
    · intro i h1 h2
      simp [List.getElem_set]
      by_cases e : j = i
      · subst e; simp
      · rw [if_neg e, if_neg (Ne.symm e)]
  rw [← e]; exact this
theorem OwnB.at {w : World} {B g N : Nat} {f : Nat → Bool} (h : OwnB w B g N f) : B ≤ g ∧ g < w.heap.size := World.ownsRow.lt h g rfl
/-- a row of ints beside a row of bools, whatever is written there -/
theorem own_beside' {w : World} {B g go n c j : Nat} {E : TypeId} {O : List Int} {v u : Value} (h : Own w B E v O) (hne : v.ownBlock = none ∨ v.ownBlock ≠ some g) : Own (w.setCell ⟨g, j, none⟩ u) B E v O :=
  h.kept (grown_setCell (grown_refl w (some g)) u) hne
theorem bools_false (N : Nat) (f : Nat → Bool) (h : ∀ i, f i = false) : (madeCells (Value.bool false).cells (N * 1)).toList = (List.range N).map fun i => Value.bool (f i) := by
  rw [show (Value.bool false).cells = #[Value.bool false] from rfl, toList_madeCells_one]
  apply List.ext_getElem
  · simp
  · intro i h1 h2; simp [h]
set_option maxHeartbeats 1000000 in
theorem spec_sumsOf_s {b off n cap lim : Nat} {zs : List Int} {w : World} (h : Sl w b off n cap zs) (hok : okLen zs n) (hl : lim ≤ 200) :
    Calls Try.prog 74 #[.slice (some ⟨b, off, none⟩) n cap, (.int .i64 ((lim : Int)))] w (FrN 3 (sums zs n (lim + 1)) w) := by
  obtain ⟨i0, hi, hz0, hz1, hz2⟩ := info_parts Try.infoInt
  obtain ⟨j0, hj, hy0, hy1, hy2⟩ := info_parts Try.infoBool
  have hs := h.small
  have HO := mkhid hok
  clear hok
  have ho0 := own_empty w w.heap.size (Nat.le_refl _)
  have hb0 : Below w.heap.size w (w.alloc (.cells #[] 3)) := (Below.refl _ _).alloc (Nat.le_refl _) _
  go_enter Try.func74, Try.ntmps74
  go_wp2_with (refine wpList_make_full _ rfl _ _ 52 rfl w.heap.size 4 j0 (.bool false) 1 Try.underlying52 hj hy0 hy1 .i64 .i64 _ _ (lim + 1) rfl rfl rfl rfl (by rw [hy2]; omega) (by unfold maxLen; omega) (by simp) ?_; intro w1 hown1 hgrow1)
  have oB : OwnB w1 w.heap.size (w.alloc (.cells #[] 3)).heap.size (lim + 1) (onF zs n 0) := by
    unfold OwnB
    rw [← bools_false (lim + 1) (onF zs n 0) (fun i => onF_zero zs n i)]; exact hown1
  have eg : (w.alloc (.cells #[] 3)).heap.size = w.heap.size + 1 := by simp
  rw [eg] at oB
  have ho1 := ho0.kept hgrow1 (.inr (fun e => by cases e))
  have hb1 := hb0.grown hgrow1 hb0.size (fun k hk => by cases hk)
  clear hown1 hgrow1 ho0 hb0
  clear eg
  generalize hge : w.heap.size + 1 = gb at oB ⊢
  have hgb : w.heap.size < gb := by omega
  clear hge
  go_loopw [5, 7, 8] (fun o i _ wr => ∃ k : Nat, k ≤ lim + 1 ∧ i = .int .i64 k ∧ Own wr w.heap.size 3 o (sums zs n k) ∧ OwnB wr w.heap.size gb (lim + 1) (onF zs n k) ∧ Hid (o ≠ .slice none 0 0) ∧ Hid (o.ownBlock = none ∨ o.ownBlock ≠ some gb) ∧ Below w.heap.size w wr) (fun _ i _ _ => lim + 1 - (intOf i).toNat)
  case atStart => exact ⟨0, Nat.zero_le _, rfl, ho1, oB, (fun e => by cases e), .inr (fun e => by injection e with e; have : w.heap.size = gb := e; omega), hb1⟩
  case round =>
    obtain ⟨k, hk, rfl, ho, hB, hnn, hap, hbr⟩ := hrel
    clear ho1 oB hb1
    by_cases hlt : k ≤ lim
    · have i1 : (0 : Int) ≤ (k : Int) := by omega
      have i2 : (k : Int) < (lim : Int) + 1 := by omega
      have f2 := (hB.facts k).2
      have f1 := (hB.facts k).1 (by omega)
      have B1 := (hB.set k (k == 0)).congr (f' := fun i => if i = k then onX zs n k 0 else onF zs n k i) (fun i _ => by rw [onX_zero])
      have O1 := own_beside' (j := k) (u := .bool (k == 0)) (n := 0) (go := 0) (c := 0) ho hap.out
      have hb2 := hbr.setCell (p := ⟨gb, k, none⟩) (Nat.le_of_lt hgb) (.bool (k == 0))
      have e0 : ((k : Int) == 0) = (k == 0) := by rw [Bool.eq_iff_iff]; simp
      clear ho hB
      go_wp2_with fail
      obtain ⟨wo, hwo⟩ : ∃ wo : World, Hid (wo = wr) := ⟨_, rfl⟩
      go_loopw [8] (fun i wr => ∃ m : Nat, m ≤ n ∧ i = .int .i64 m ∧ Own wr w.heap.size 3 u5 (sums zs n k) ∧ OwnB wr w.heap.size gb (lim + 1) (fun i => if i = k then onX zs n k m else onF zs n k i) ∧ Below w.heap.size w wr) (fun i _ => n - (intOf i).toNat)
      case atStart => exact ⟨0, Nat.zero_le _, rfl, O1, B1, hb2⟩
      case round =>
        obtain ⟨m, hm, rfl, ho, hB, hb3⟩ := hrel
        clear O1 B1 hb2 hbr f1 f2
        have fk := (hB.facts k).1 (by omega)
        have fz := (hB.facts k).2
        simp only [if_true] at fk
        by_cases hmn : m < n
        · have c1 := (h.below hb3).cell hmn
          have hbd := HO.out m hmn
          have hB2 : ∀ u, onX zs n k (m + 1) = u → OwnB (wr.setCell ⟨gb, k, none⟩ (.bool u)) w.heap.size gb (lim + 1) (fun i => if i = k then onX zs n k (m + 1) else onF zs n k i) := fun u hu => (hB.set k u).congr (fun i _ => by by_cases e : i = k <;> simp [e, hu])
          have O2 : ∀ u, Own (wr.setCell ⟨gb, k, none⟩ u) w.heap.size 3 u5 (sums zs n k) := fun u => own_beside' (n := 0) (go := 0) (c := 0) ho hap.out
          have hb4 : ∀ u, Below w.heap.size w (wr.setCell ⟨gb, k, none⟩ u) := fun u => hb3.setCell (p := ⟨gb, k, none⟩) (Nat.le_of_lt hgb) u
          obtain ⟨x, hx⟩ : ∃ x : Nat, el zs m = x := ⟨(el zs m).toNat, by omega⟩
          have hsu := onX_succ zs n k m
          rw [hx, Int.toNat_natCast] at hsu
          rw [hx] at c1 hbd
          have j1 : (0 : Int) ≤ (m : Int) := by omega
          have j2 : (m : Int) < (n : Int) := by omega
          cases hX : onX zs n k m
          · rw [hX] at fk hsu
            by_cases hle : x ≤ k
            · have hle' : decide ((x : Int) ≤ (k : Int)) = true := decide_eq_true (by omega)
              have fj := (hB.facts (k - x)).1 (by omega)
              simp only [show ¬ (k - x = k) by omega, if_false] at fj
              obtain ⟨v, hv⟩ : ∃ v, v = onF zs n k (k - x) := ⟨_, rfl⟩
              rw [← hv] at fj hsu
              rw [hle'] at hsu
              have B2 := hB2 v (by rw [hsu]; simp)
              have q1 : ((k : Int) - x).toNat = k - x := by omega
              have q2 : (0 : Int) ≤ (k : Int) - x := by omega
              have q3 : (k : Int) - x < (lim : Int) + 1 := by omega
              clear hsu hv hX hB ho hB2
              go_wp2
              go_roundw
              case rel => exact ⟨m + 1, by omega, by go_num, O2 _, B2, hb4 _⟩
              case measure => simp [intOf]; omega
            · have hle' : decide ((x : Int) ≤ (k : Int)) = false := decide_eq_false (by omega)
              rw [hle'] at hsu
              have B2 := hB2 false (by rw [hsu]; simp)
              clear hsu hX hB ho hB2
              go_wp2
              go_roundw
              case rel => exact ⟨m + 1, by omega, by go_num, O2 _, B2, hb4 _⟩
              case measure => simp [intOf]; omega
          · rw [hX] at fk hsu
            have B2 := hB2 true (by rw [hsu]; simp)
            clear hsu hX hB ho hB2
            go_wp2
            go_roundw
            case rel => exact ⟨m + 1, by omega, by go_num, O2 _, B2, hb4 _⟩
            case measure => simp [intOf]; omega
        · obtain rfl : m = n := by omega
          have B3 := hB.congr (f' := onF zs m (k + 1)) (fun i _ => (onF_succ zs m k i).symm)
          have hsz := hb3.size
          have hgl := hB.at.2
          clear hB
          cases hX : onX zs m k m
          · rw [hX] at fk
            rw [← sums_no hX] at ho
            clear hX
            go_wp2
            go_roundw
            case rel => exact ⟨k + 1, by omega, by go_num, ho, B3, hnn, hap, hb3⟩
            case measure => simp [intOf]; omega
          · rw [hX] at fk
            have hsl := sums_length zs m k
            have HY := mkhid (sums_yes hX)
            clear hX
            go_wp2_with (at_builtin; refine wpList_append_own_at _ rfl (.tmp 59) (.tmp 61) 23 rfl w.heap.size 3 i0 (.int .i64 0) 1 8 Try.underlying23 hi hz0 hz1 hz2 rfl (by decide) _ (sums zs m k).length _ rfl (World.ownsRow.alloc (show World.ownsRow _ w.heap.size 3 1 _ _ _ from ho) _) ⟨_, 0, none⟩ 1 1 [.int .i64 k] rfl rfl (cell_one_at _ _ _ _ (by first | rfl | simp)) (by intro u hu; simp at hu; subst hu; rfl) (by unfold maxLen; omega) (by omega) (by simp; omega) ?_; intro v1 w1 hown1 hgrow1 hnil1 hat1)
            have ha := own_app hown1
            rw [← HY.out] at ha
            have hb5 := below_append hb3 ho hsz hgrow1
            have B4 : OwnB w1 w.heap.size gb (lim + 1) (onF zs m (k + 1)) := World.ownsRow.kept (show World.ownsRow _ w.heap.size 4 1 _ _ _ from B3.below ((Below.refl _ _).alloc (Nat.le_refl _) _)) hgrow1 (apart_symm hap.out)
            have hnn1 : Hid (v1 ≠ .slice none 0 0) := fun e => by have := (hnil1.1 e).2; cases this
            have hap1 : Hid (v1.ownBlock = none ∨ v1.ownBlock ≠ some gb) := by
              rcases hat1 with e | e
              · rcases hap.out with e2 | e2
                · exact .inl (e.trans e2)
                · exact .inr (fun e3 => e2 (e.symm.trans e3))
              · refine .inr (fun e3 => ?_)
                have e4 := e.symm.trans e3
                injection e4 with e4
                simp at e4
                omega
            clear hown1 hgrow1 hnil1 hat1 ho B3 hb3 HY hap hnn fk fz
            go_wp2
            go_roundw
            case rel => exact ⟨k + 1, by omega, by go_num, ha, B4, hnn1, hap1, hb5⟩
            case measure => simp [intOf]; omega
    · have i2 : decide ((k : Int) ≤ (lim : Int)) = false := decide_eq_false (by omega)
      have ek := mkhid (show k = lim + 1 by omega)
      go_wp2
      go_ret
      exact FrN.of (ek.out ▸ ho) hnn.out hbr
end Go.Proofs.Ytddpjgcodnfbjaa
