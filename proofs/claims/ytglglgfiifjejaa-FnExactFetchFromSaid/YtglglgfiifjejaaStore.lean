/- StoreIn and FetchFrom (spec and impl), and the walks of their exact laws; no statement is proved here. -/
import Derived.Test.YtglglgfiifjejaaCopy
import Derived.Test.YtglglgfiifjejaaHarp
namespace Go.Proofs.Ytglglgfiifjejaa
open Go.ChangeShapes Go.WideShapes Go.ChangeAt Go.RowKit
set_option linter.unusedVariables false
set_option linter.unusedSimpArgs false

@[irreducible] def storeOk (zs : List Int) (l : Int) : Bool := vHarp zs && decide (1 ≤ l ∧ l ≤ 9999 ∧ placeI zs l < 0 ∧ 0 ≤ placeI zs 0)
def storeR (zs : List Int) (l : Int) : List Int := if storeOk zs l = true then zs.set (placeI zs 0).toNat l else []
@[irreducible] def storeAt (zs : List Int) (l : Int) : Int := if storeOk zs l = true then placeI zs 0 else 0
theorem storeOk_iff {zs : List Int} {l : Int} : storeOk zs l = true ↔ vHarp zs = true ∧ 1 ≤ l ∧ l ≤ 9999 ∧ placeI zs l < 0 ∧ 0 ≤ placeI zs 0 := by unfold storeOk; simp
theorem storeR_short {zs : List Int} {l : Int} (h : zs.length ≤ 1048576) : (storeR zs l).length ≤ 1048576 := by unfold storeR; split <;> simp; exact h
theorem store_no {zs : List Int} {l : Int} {w : World} (h : storeOk zs l = false) (w' : World) (hb : Below w.heap.size w w') : FrX 3 (fun v => .tuple #[v, (.int .i64 (storeAt zs l)), .bool (storeOk zs l)]) (storeR zs l) w (.returned (.tuple #[.slice none 0 0, (.int .i64 0), .bool false])) w' := by
  refine ⟨.slice none 0 0, ?_, ?_, hb⟩
  · unfold storeAt; rw [h]; rfl
  · have e : storeR zs l = [] := by unfold storeR; rw [h]; rfl
    rw [e]; exact own_nil _ _ _
theorem store_yes {zs : List Int} {l : Int} {k : Nat} {w : World} (h : storeOk zs l = true) (hk : placeI zs 0 = k) (v : Value) (w' : World) (ho : Own w' w.heap.size 3 v (zs.set k l)) (hb : Below w.heap.size w w') : FrX 3 (fun v => .tuple #[v, (.int .i64 (storeAt zs l)), .bool (storeOk zs l)]) (storeR zs l) w (.returned (.tuple #[v, (.int .i64 ((k : Int))), .bool true])) w' := by
  refine ⟨v, ?_, ?_, hb⟩
  · unfold storeAt; rw [h, hk]; rfl
  · have e : storeR zs l = zs.set k l := by unfold storeR; rw [h, hk]; rfl
    rw [e]; exact ho
theorem store_cases (zs : List Int) (l : Int) (n : Nat) (hn : zs.length = n) : vHarp zs = false ∨ (vHarp zs = true ∧ ¬ (1 ≤ l ∧ l ≤ 9999)) ∨ (vHarp zs = true ∧ (1 ≤ l ∧ l ≤ 9999) ∧ 0 ≤ placeI zs l) ∨ (vHarp zs = true ∧ (1 ≤ l ∧ l ≤ 9999) ∧ placeI zs l < 0 ∧ placeI zs 0 = -1) ∨
    (vHarp zs = true ∧ (1 ≤ l ∧ l ≤ 9999) ∧ placeI zs l < 0 ∧ ∃ k : Nat, k < n ∧ placeI zs 0 = k) := by
  cases hv : vHarp zs
  · exact .inl rfl
  · by_cases c2 : 1 ≤ l ∧ l ≤ 9999
    · by_cases c3 : 0 ≤ placeI zs l
      · exact .inr (.inr (.inl ⟨rfl, c2, c3⟩))
      · rcases placeI_cases zs 0 with ⟨h, _⟩ | ⟨k, hk, h, _⟩
        · exact .inr (.inr (.inr (.inl ⟨rfl, c2, by omega, h⟩)))
        · exact .inr (.inr (.inr (.inr ⟨rfl, c2, by omega, k, by omega, h⟩)))
    · exact .inr (.inl ⟨rfl, c2⟩)
theorem store_false {zs : List Int} {l : Int} (h : ¬ (vHarp zs = true ∧ 1 ≤ l ∧ l ≤ 9999 ∧ placeI zs l < 0 ∧ 0 ≤ placeI zs 0)) : storeOk zs l = false := by
  cases hh : storeOk zs l
  · rfl
  · exact absurd (storeOk_iff.1 hh) h
theorem spec_StoreIn_s {b off n cap : Nat} {zs : List Int} {l : Int} {w : World} (h : Sl w b off n cap zs) :
    Calls Try.prog 47 #[.slice (some ⟨b, off, none⟩) n cap, (.int .i64 l)] w (FrX 3 (fun v => .tuple #[v, (.int .i64 (storeAt zs l)), .bool (storeOk zs l)]) (storeR zs l) w) := by
  have hs := h.small
  have hpl := fun (w' : World) (hd : Drew w w') (x : Int) => placeIn_s (x := x) (h.drew hd)
  rcases store_cases zs l n h.len with hv | ⟨hv, hl⟩ | ⟨hv, hl, hq⟩ | ⟨hv, hl, hq, hr⟩ | ⟨hv, hl, hq, k, hk, hr⟩
  · have hno := store_no (w := w) (store_false (zs := zs) (l := l) (by rw [hv]; simp))
    go_enter Try.func47, Try.ntmps47
    go_wp2_with (go_at_call 66; refine (spec_validHarp_s h).mono ?_; rintro e w1 ⟨rfl, hd1⟩)
    go_ret3
    exact hno _ hd1.below
  · have hno := store_no (w := w) (store_false (zs := zs) (l := l) (fun hh => hl ⟨hh.2.1, hh.2.2.1⟩))
    have hin := inR_no hl
    clear hl
    go_enter Try.func47, Try.ntmps47
    go_wp2_with (first | (go_at_call 66; refine (spec_validHarp_s h).mono ?_; rintro e w1 ⟨rfl, hd1⟩) | (go_at_call 73; refine (inRange_c _ _ _ _).mono ?_; rintro e w2 ⟨rfl, rfl⟩))
    go_ret3
    exact hno _ hd1.below
  · have hno := store_no (w := w) (store_false (zs := zs) (l := l) (fun hh => by omega))
    have hin := inR_yes hl
    obtain ⟨q, hq1⟩ : ∃ q, placeI zs l = q := ⟨_, rfl⟩
    have hq' : ∀ (w' : World) (hd : Drew w w'), Calls Try.prog 85 #[.slice (some ⟨b, off, none⟩) n cap, (.int .i64 l)] w' (Rs (.int .i64 q) w') := fun w' hd => hq1 ▸ hpl w' hd l
    have hq2 : decide (0 ≤ q) = true := decide_eq_true (hq1 ▸ hq)
    clear hl hq hq1 hpl
    go_enter Try.func47, Try.ntmps47
    go_wp2_with (first | (go_at_call 66; refine (spec_validHarp_s h).mono ?_; rintro e w1 ⟨rfl, hd1⟩) | (go_at_call 73; refine (inRange_c _ _ _ _).mono ?_; rintro e w2 ⟨rfl, rfl⟩) | (go_at_call 85; refine (hq' _ hd1).mono ?_; rintro e w2 ⟨rfl, rfl⟩))
    go_ret3
    exact hno _ hd1.below
  · have hno := store_no (w := w) (store_false (zs := zs) (l := l) (fun hh => by omega))
    have hin := inR_yes hl
    obtain ⟨q, hq1⟩ : ∃ q, placeI zs l = q := ⟨_, rfl⟩
    have hq' : ∀ (w' : World) (hd : Drew w w'), Calls Try.prog 85 #[.slice (some ⟨b, off, none⟩) n cap, (.int .i64 l)] w' (Rs (.int .i64 q) w') := fun w' hd => hq1 ▸ hpl w' hd l
    have hr' : ∀ (w' : World) (hd : Drew w w'), Calls Try.prog 85 #[.slice (some ⟨b, off, none⟩) n cap, (.int .i64 0)] w' (Rs (.int .i64 (-1)) w') := fun w' hd => hr ▸ hpl w' hd 0
    have hq2 : q < 0 := hq1 ▸ hq
    have hl1 := hl.1
    clear hl hq hq1 hpl hr
    go_enter Try.func47, Try.ntmps47
    go_wp2_with (first | (go_at_call 66; refine (spec_validHarp_s h).mono ?_; rintro e w1 ⟨rfl, hd1⟩) | (go_at_call 73; refine (inRange_c _ _ _ _).mono ?_; rintro e w2 ⟨rfl, rfl⟩) | (go_at_call_of 85 (Value.int IntKind.i64 l); refine (hq' _ hd1).mono ?_; rintro e w2 ⟨rfl, rfl⟩) | (go_at_call 85; refine (hr' _ hd1).mono ?_; rintro e w2 ⟨rfl, rfl⟩))
    go_ret3
    exact hno _ hd1.below
  · have hyes := store_yes (w := w) (storeOk_iff.2 ⟨hv, hl.1, hl.2, hq, by omega⟩) hr
    have hin := inR_yes hl
    obtain ⟨q, hq1⟩ : ∃ q, placeI zs l = q := ⟨_, rfl⟩
    have hq' : ∀ (w' : World) (hd : Below w.heap.size w w'), Calls Try.prog 85 #[.slice (some ⟨b, off, none⟩) n cap, (.int .i64 l)] w' (Rs (.int .i64 q) w') := fun w' hd => hq1 ▸ placeIn_s (h.below hd)
    have hr' : ∀ (w' : World) (hd : Below w.heap.size w w'), Calls Try.prog 85 #[.slice (some ⟨b, off, none⟩) n cap, (.int .i64 0)] w' (Rs (.int .i64 ((k : Int))) w') := fun w' hd => hr ▸ placeIn_s (h.below hd)
    have hq2 : q < 0 := hq1 ▸ hq
    have HN : Hid (zs.length = n) := h.len
    have hl1 := hl.1
    clear hl hq hq1 hpl hr
    go_enter Try.func47, Try.ntmps47
    go_wp2_with (first | (go_at_call 66; refine (spec_validHarp_s h).mono ?_; rintro e w1 ⟨rfl, hd1⟩; have hB1 := hd1.below) | (go_at_call 73; refine (inRange_c _ _ _ _).mono ?_; rintro e w2 ⟨rfl, rfl⟩) | (go_at_call_of 85 (Value.int IntKind.i64 l); refine (hq' _ hB1).mono ?_; rintro e w2 ⟨rfl, rfl⟩) | (go_at_call 85; refine (hr' _ hB1).mono ?_; rintro e w2 ⟨rfl, rfl⟩))
    refine (FrN.c h.len (spec_copyInts_s (h.drew hd1))).mono ?_
    rintro e w2 ⟨g, c, rfl, ho, hb2⟩
    have hB2 := hB1.trans (hb2.mono hB1.size)
    have hz1 := hB1.size
    have hf := own_facts ho k
    have hcell := hf.1 hk
    have hfz := hf.2
    have hst := own_set ho k l
    have hgb := (Own.at ho).2.1
    go_wp2_with fail
    refine (hr' _ hB2).mono ?_
    rintro e _ ⟨rfl, rfl⟩
    go_wp2_with fail
    refine (hr' _ (hB2.setCell (p := ⟨g, k, none⟩) (Nat.le_trans hz1 hgb) _)).mono ?_
    rintro e _ ⟨rfl, rfl⟩
    go_wp2_with fail
    go_ret3
    exact hyes _ _ (hst.le hz1) (hB2.setCell (p := ⟨g, k, none⟩) (Nat.le_trans hz1 hgb) _)
theorem sContains_s {b off n cap : Nat} {zs : List Int} {x : Int} {w : World} (h : Sl w b off n cap zs) :
    Calls Try.prog 88 #[.slice (some ⟨b, off, none⟩) n cap, (.int .i64 x)] w (Rs (.bool (decide (0 ≤ placeI zs x))) w) := by
  obtain ⟨q, hq1⟩ : ∃ q, placeI zs x = q := ⟨_, rfl⟩
  have hq' : Calls Try.prog 67 #[.slice (some ⟨b, off, none⟩) n cap, (.int .i64 x)] w (Rs (.int .i64 q) w) := hq1 ▸ sIndex_s h
  rw [hq1]
  clear hq1
  go_enter Try.func88, Try.ntmps88
  go_wp2_with (go_at_call 67; refine hq'.mono ?_; rintro e w1 ⟨rfl, rfl⟩)
  go_ret
  exact ⟨rfl, rfl⟩
theorem impl_StoreIn_s {b off n cap : Nat} {zs : List Int} {l : Int} {w : World} (h : Sl w b off n cap zs) :
    Calls Try.prog 48 #[.slice (some ⟨b, off, none⟩) n cap, (.int .i64 l)] w (FrX 3 (fun v => .tuple #[v, (.int .i64 (storeAt zs l)), .bool (storeOk zs l)]) (storeR zs l) w) := by
  have hs := h.small
  rcases store_cases zs l n h.len with hv | ⟨hv, hl⟩ | ⟨hv, hl, hq⟩ | ⟨hv, hl, hq, hr⟩ | ⟨hv, hl, hq, k, hk, hr⟩
  · have hno := store_no (w := w) (store_false (zs := zs) (l := l) (by rw [hv]; simp))
    go_enter Try.func48, Try.ntmps48
    go_wp2_with (go_at_call 25; refine (impl_ValidHarp_s h).mono ?_; rintro e w1 ⟨rfl, rfl⟩)
    go_ret3
    exact hno _ (Below.refl _ _)
  · have hno := store_no (w := w) (store_false (zs := zs) (l := l) (fun hh => hl ⟨hh.2.1, hh.2.2.1⟩))
    by_cases h1 : 1 ≤ l
    · have h2 : ¬ l ≤ 9999 := fun hh => hl ⟨h1, hh⟩
      clear hl
      go_enter Try.func48, Try.ntmps48
      go_wp2_with (go_at_call 25; refine (impl_ValidHarp_s h).mono ?_; rintro e w1 ⟨rfl, rfl⟩)
      go_ret3
      exact hno _ (Below.refl _ _)
    · clear hl
      go_enter Try.func48, Try.ntmps48
      go_wp2_with (go_at_call 25; refine (impl_ValidHarp_s h).mono ?_; rintro e w1 ⟨rfl, rfl⟩)
      go_ret3
      exact hno _ (Below.refl _ _)
  · have hno := store_no (w := w) (store_false (zs := zs) (l := l) (fun hh => by omega))
    have hct : Calls Try.prog 88 #[.slice (some ⟨b, off, none⟩) n cap, (.int .i64 l)] w (Rs (.bool true) w) := by
      have := sContains_s (x := l) h; rwa [decide_eq_true hq] at this
    obtain ⟨hl1, hl2⟩ := hl
    clear hq
    go_enter Try.func48, Try.ntmps48
    go_wp2_with (first | (go_at_call 25; refine (impl_ValidHarp_s h).mono ?_; rintro e w1 ⟨rfl, rfl⟩) | (go_at_call 88; refine hct.mono ?_; rintro e w1 ⟨rfl, rfl⟩))
    go_ret3
    exact hno _ (Below.refl _ _)
  · have hno := store_no (w := w) (store_false (zs := zs) (l := l) (fun hh => by omega))
    have hct : Calls Try.prog 88 #[.slice (some ⟨b, off, none⟩) n cap, (.int .i64 l)] w (Rs (.bool false) w) := by
      have := sContains_s (x := l) h; rwa [decide_eq_false (by omega)] at this
    have hix : Calls Try.prog 67 #[.slice (some ⟨b, off, none⟩) n cap, (.int .i64 0)] w (Rs (.int .i64 (-1)) w) := hr ▸ sIndex_s h
    obtain ⟨hl1, hl2⟩ := hl
    clear hq hr
    go_enter Try.func48, Try.ntmps48
    go_wp2_with (first | (go_at_call 25; refine (impl_ValidHarp_s h).mono ?_; rintro e w1 ⟨rfl, rfl⟩) | (go_at_call 88; refine hct.mono ?_; rintro e w1 ⟨rfl, rfl⟩) | (go_at_call 67; refine hix.mono ?_; rintro e w1 ⟨rfl, rfl⟩))
    go_ret3
    exact hno _ (Below.refl _ _)
  · have hyes := store_yes (w := w) (storeOk_iff.2 ⟨hv, hl.1, hl.2, hq, by omega⟩) hr
    have hct : Calls Try.prog 88 #[.slice (some ⟨b, off, none⟩) n cap, (.int .i64 l)] w (Rs (.bool false) w) := by
      have := sContains_s (x := l) h; rwa [decide_eq_false (by omega)] at this
    have hix : Calls Try.prog 67 #[.slice (some ⟨b, off, none⟩) n cap, (.int .i64 0)] w (Rs (.int .i64 ((k : Int))) w) := hr ▸ sIndex_s h
    have HN : Hid (zs.length = n) := h.len
    obtain ⟨hl1, hl2⟩ := hl
    clear hq hr
    go_enter Try.func48, Try.ntmps48
    go_wp2_with (first | (go_at_call 25; refine (impl_ValidHarp_s h).mono ?_; rintro e w1 ⟨rfl, rfl⟩) | (go_at_call 88; refine hct.mono ?_; rintro e w1 ⟨rfl, rfl⟩) | (go_at_call 67; refine hix.mono ?_; rintro e w1 ⟨rfl, rfl⟩))
    refine (FrN.c h.len (sClone_s h)).mono ?_
    rintro e w2 ⟨g, c, rfl, ho, hb2⟩
    have hf := own_facts ho k
    have hcell := hf.1 hk
    have hfz := hf.2
    have hst := own_set ho k l
    have hgb := (Own.at ho).2.1
    go_wp2_with fail
    go_ret3
    exact hyes _ _ hst (hb2.setCell hgb _)

set_option maxHeartbeats 1000000 in
theorem FnExactStoreIn_walk (v0 : Value) (zs0 : List Int) (a1 : Int) (w : World) (hv0 : ISl w v0 zs0) : Calls Try.prog 13 #[v0, .int .i64 a1] w (Rt (.bool true) w) := by
  have hv0' := hv0
  obtain ⟨p0, cap0, rfl, _⟩ := hv0'
  by_cases hl0 : zs0.length ≤ 1048576
  · have ml0 : zs0.length ≤ maxLen := by unfold maxLen; omega
    obtain ⟨RS, hRS⟩ : ∃ RS, RS = storeR zs0 a1 := ⟨_, rfl⟩
    have hr : RS.length ≤ 1048576 := by rw [hRS]; exact storeR_short hl0
    have hB0 : Below w.heap.size w w := Below.refl _ _
    go_enter Try.func13, Try.ntmps13
    have HRS := mkhid hRS
    clear hRS
    go_wp2_with fail
    refine (toIntS_c _ zs0 _ (hv0.below hB0) hl0).mono ?_
    rintro e w1 ⟨g1, rfl, ho1, hb1⟩
    have hB1 := hB0.trans (hb1.mono hB0.size)
    have hz1 := hb1.size
    have s0 := ho1.sl hl0 ml0
    clear ho1
    clear hB0 hb1
    go_wp2_with fail
    refine (spec_StoreIn_s s0).mono ?_
    rintro e w2 ⟨vW, rfl, OW, hb2⟩
    have hB2 := hB1.trans (hb2.mono hB1.size)
    have hz2 := hb2.size
    replace s0 := s0.below hb2
    have OW_c := OW
    rw [← HRS.out] at OW OW_c
    clear hB1 hb2
    go_wp2_with fail
    clear s0
    refine (toIntS_c _ zs0 _ (hv0.below hB2) hl0).mono ?_
    rintro e w3 ⟨g3, rfl, ho3, hb3⟩
    have hB3 := hB2.trans (hb3.mono hB2.size)
    have hz3 := hb3.size
    replace OW := OW.below hb3
    have s0 := ho3.sl hl0 ml0
    have OX0 := ho3
    have OX0_c := ho3
    clear ho3
    clear hB2 hb3
    go_wp2_with fail
    refine (impl_StoreIn_s s0).mono ?_
    rintro e w4 ⟨vG, rfl, OG, hb4⟩
    have hB4 := hB3.trans (hb4.mono hB3.size)
    have hz4 := hb4.size
    replace OW := OW.below hb4
    replace s0 := s0.below hb4
    replace OX0 := OX0.below hb4
    have OG_c := OG
    rw [← HRS.out] at OG OG_c
    clear hB3 hb4
    go_wp2_with fail
    have d_WX0 := own_apart OW_c OX0_c (by omega)
    have d_XG0 := own_apart OX0_c OG_c (by omega)
    have d_WG := own_apart OW_c OG_c (by omega)
    clear OW_c OG_c OX0_c
    refine (rd_rt (eqIntS_c _ _ RS RS _ OG.isl OW.isl hr hr)).mono ?_
    rintro e w5 ⟨rfl, hb5⟩
    have hB5 := hB4.trans (hb5.mono hB4.size)
    have hz5 := hb5.size
    replace OW := OW.below hb5
    replace s0 := s0.below hb5
    replace OX0 := OX0.below hb5
    replace OG := OG.below hb5
    clear hB4 hb5
    go_wp2_with fail
    refine (toIntS_c _ zs0 _ (hv0.below hB5) hl0).mono ?_
    rintro e w6 ⟨g6, rfl, ho6, hb6⟩
    have hB6 := hB5.trans (hb6.mono hB5.size)
    have hz6 := hb6.size
    replace OW := OW.below hb6
    replace s0 := s0.below hb6
    replace OX0 := OX0.below hb6
    replace OG := OG.below hb6
    have t0 := ho6.sl hl0 ml0
    clear ho6
    clear hB5 hb6
    go_wp2_with fail
    refine (rd_rt (eqIntS_c _ _ zs0 zs0 _ s0.isl t0.isl hl0 hl0)).mono ?_
    rintro e w7 ⟨rfl, hb7⟩
    have hB7 := hB6.trans (hb7.mono hB6.size)
    have hz7 := hb7.size
    replace OW := OW.below hb7
    replace s0 := s0.below hb7
    replace OX0 := OX0.below hb7
    replace OG := OG.below hb7
    replace t0 := t0.below hb7
    clear hB6 hb7
    go_wp2_with fail
    clear s0 t0
    refine (markIntS_c _ _ _ (1) _ OX0 hl0 ⟨by omega, by omega⟩).mono ?_
    rintro e w8 ⟨rfl, N8, gr8⟩
    have hb8 := Own.below_of (C := w.heap.size) OX0 gr8 (by omega) hB7.size
    replace OW := OW.kept gr8 d_WX0
    replace OG := OG.kept gr8 (apart_symm d_XG0)
    have hz8 := gr8.size
    have hB8 := hB7.trans hb8
    replace OX0 := N8
    clear N8 gr8 hB7 hb8
    go_wp2_with fail
    refine (rd_rt (eqIntS_c _ _ RS RS _ OG.isl OW.isl hr hr)).mono ?_
    rintro e w9 ⟨rfl, hb9⟩
    have hB9 := hB8.trans (hb9.mono hB8.size)
    have hz9 := hb9.size
    replace OW := OW.below hb9
    replace OX0 := OX0.below hb9
    replace OG := OG.below hb9
    clear hB8 hb9
    go_wp2_with fail
    clear OX0
    refine (markIntS_c _ _ _ (1) _ OG hr ⟨by omega, by omega⟩).mono ?_
    rintro e w10 ⟨rfl, N10, gr10⟩
    have hb10 := Own.below_of (C := w.heap.size) OG gr10 (by omega) hB9.size
    replace OW := OW.kept gr10 d_WG
    have hz10 := gr10.size
    have hB10 := hB9.trans hb10
    replace OG := N10
    clear N10 gr10 hB9 hb10
    go_wp2_with fail
    refine (heldIntS_c _ _ 1 RS.length _ OG hr ⟨by omega, by omega⟩).mono ?_
    rintro e _ ⟨rfl, rfl⟩
    go_wp2_with fail
    refine (toIntS_c _ zs0 _ (hv0.below hB10) hl0).mono ?_
    rintro e w11 ⟨g11, rfl, ho11, hb11⟩
    have hB11 := hB10.trans (hb11.mono hB10.size)
    have hz11 := hb11.size
    replace OW := OW.below hb11
    replace OG := OG.below hb11
    have s0 := ho11.sl hl0 ml0
    clear ho11
    clear hB10 hb11
    go_wp2_with fail
    refine (impl_StoreIn_s s0).mono ?_
    rintro e w12 ⟨vH, rfl, OH, hb12⟩
    have hB12 := hB11.trans (hb12.mono hB11.size)
    have hz12 := hb12.size
    replace OW := OW.below hb12
    replace OG := OG.below hb12
    replace s0 := s0.below hb12
    rw [← HRS.out] at OH
    clear hB11 hb12
    go_wp2_with fail
    refine (rd_rt (eqIntS_c _ _ RS RS _ OH.isl OW.isl hr hr)).mono ?_
    rintro e w13 ⟨rfl, hb13⟩
    have hB13 := hB12.trans (hb13.mono hB12.size)
    have hz13 := hb13.size
    replace OW := OW.below hb13
    replace OG := OG.below hb13
    replace s0 := s0.below hb13
    replace OH := OH.below hb13
    clear hB12 hb13
    go_wp2_with fail
    refine (heldIntS_c _ _ 1 RS.length _ OG hr ⟨by omega, by omega⟩).mono ?_
    rintro e _ ⟨rfl, rfl⟩
    go_wp2
    go_ret
    exact ⟨rfl, hB13⟩
  · have hl0' : (1048576 : Int) < (zs0.length : Int) := by omega
    go_enter Try.func13, Try.ntmps13
    go_wp2
    all_goals (go_ret; exact ⟨rfl, Below.refl _ _⟩)
end Go.Proofs.Ytglglgfiifjejaa
