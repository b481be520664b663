/- StoreIn and FetchFrom (spec and impl), and the walks of their exact laws; no statement is proved here. -/
import Derived.Test.YtddpjgcodnfbjaaCopy
import Derived.Test.YtddpjgcodnfbjaaHarp
namespace Go.Proofs.Ytddpjgcodnfbjaa
open Go.ChangeShapes Go.WideShapes Go.ChangeAt Go.RowKit
set_option linter.unusedVariables false
set_option linter.unusedSimpArgs false

@[irreducible] def storeOk (zs : List Int) (l : Int) : Bool := vHarp zs && decide (1 ≤ l ∧ l ≤ 9999 ∧ placeI zs l < 0 ∧ 0 ≤ placeI zs 0)
def storeR (zs : List Int) (l : Int) : List Int := if storeOk zs l = true then zs.set (placeI zs 0).toNat l else []
@[irreducible] def storeAt (zs : List Int) (l : Int) : Int := if storeOk zs l = true then placeI zs 0 else 0
theorem storeOk_iff {zs : List Int} {l : Int} : storeOk zs l = true ↔ vHarp zs = true ∧ 1 ≤ l ∧ l ≤ 9999 ∧ placeI zs l < 0 ∧ 0 ≤ placeI zs 0 := by unfold storeOk; simp
theorem storeR_short {zs : List Int} {l : Int} (h : zs.length ≤ 1048576) : (storeR zs l).length ≤ 1048576 := by unfold storeR; split <;> simp; exact h
theorem store_no {zs : List Int} {l : Int} {w : World} (h : storeOk zs l = false) (w' : World) (hb : Below w.heap.size w w') : FrX 3 (fun v => .tuple #[v, (.int .i64 (storeAt zs l)), .bool (storeOk zs l)]) (storeR zs l) w (.returned (.tuple #[.slice none 0 0, (.int .i64 0), .bool false])) w' := by
  refine ⟨.slice none 0 0, ?_, ?_, hb⟩
  · unfold storeAt; rw [h]; rfl
  · have e : storeR zs l = [] := by unfold storeR; rw [h]; rfl
    rw [e]; exact own_nil _ _ _
theorem store_yes {zs : List Int} {l : Int} {k : Nat} {w : World} (h : storeOk zs l = true) (hk : placeI zs 0 = k) (v : Value) (w' : World) (ho : Own w' w.heap.size 3 v (zs.set k l)) (hb : Below w.heap.size w w') : FrX 3 (fun v => .tuple #[v, (.int .i64 (storeAt zs l)), .bool (storeOk zs l)]) (storeR zs l) w (.returned (.tuple #[v, (.int .i64 ((k : Int))), .bool true])) w' := by
  refine ⟨v, ?_, ?_, hb⟩
  · unfold storeAt; rw [h, hk]; rfl
  · have e : storeR zs l = zs.set k l := by unfold storeR; rw [h, hk]; rfl
    rw [e]; exact ho
theorem store_cases (zs : List Int) (l : Int) (n : Nat) (hn : zs.length = n) : vHarp zs = false ∨ (vHarp zs = true ∧ ¬ (1 ≤ l ∧ l ≤ 9999)) ∨ (vHarp zs = true ∧ (1 ≤ l ∧ l ≤ 9999) ∧ 0 ≤ placeI zs l) ∨ (vHarp zs = true ∧ (1 ≤ l ∧ l ≤ 9999) ∧ placeI zs l < 0 ∧ placeI zs 0 = -1) ∨
    (vHarp zs = true ∧ (1 ≤ l ∧ l ≤ 9999) ∧ placeI zs l < 0 ∧ ∃ k : Nat, k < n ∧ placeI zs 0 = k) := by
  cases hv : vHarp zs
  · exact .inl rfl
  · by_cases c2 : 1 ≤ l ∧ l ≤ 9999
    · by_cases c3 : 0 ≤ placeI zs l
      · exact .inr (.inr (.inl ⟨rfl, c2, c3⟩))
      · rcases placeI_cases zs 0 with ⟨h, _⟩ | ⟨k, hk, h, _⟩
        · exact .inr (.inr (.inr (.inl ⟨rfl, c2, by omega, h⟩)))
        · exact .inr (.inr (.inr (.inr ⟨rfl, c2, by omega, k, by omega, h⟩)))
    · exact .inr (.inl ⟨rfl, c2⟩)
theorem store_false {zs : List Int} {l : Int} (h : ¬ (vHarp zs = true ∧ 1 ≤ l ∧ l ≤ 9999 ∧ placeI zs l < 0 ∧ 0 ≤ placeI zs 0)) : storeOk zs l = false := by
  cases hh : storeOk zs l
  · rfl
  · exact absurd (storeOk_iff.1 hh) h
theorem spec_StoreIn_s {b off n cap : Nat} {zs : List Int} {l : Int} {w : World} (h : Sl w b off n cap zs) :
    Calls Try.prog 16 #[.slice (some ⟨b, off, none⟩) n cap, (.int .i64 l)] w (FrX 3 (fun v => .tuple #[v, (.int .i64 (storeAt zs l)), .bool (storeOk zs l)]) (storeR zs l) w) := by
  have hs := h.small
  have hpl := fun (w' : World) (hd : Drew w w') (x : Int) => placeIn_s (x := x) (h.drew hd)
  rcases store_cases zs l n h.len with hv | ⟨hv, hl⟩ | ⟨hv, hl, hq⟩ | ⟨hv, hl, hq, hr⟩ | ⟨hv, hl, hq, k, hk, hr⟩
  · have hno := store_no (w := w) (store_false (zs := zs) (l := l) (by rw [hv]; simp))
    go_enter Try.func16, Try.ntmps16
    go_wp2_with (go_at_call 62; refine (spec_validHarp_s h).mono ?_; rintro e w1 ⟨rfl, hd1⟩)
    go_ret3
    exact hno _ hd1.below
  · have hno := store_no (w := w) (store_false (zs := zs) (l := l) (fun hh => hl ⟨hh.2.1, hh.2.2.1⟩))
    have hin := inR_no hl
    clear hl
    go_enter Try.func16, Try.ntmps16
    go_wp2_with (first | (go_at_call 62; refine (spec_validHarp_s h).mono ?_; rintro e w1 ⟨rfl, hd1⟩) | (go_at_call 63; refine (inRange_c _ _ _ _).mono ?_; rintro e w2 ⟨rfl, rfl⟩))
    go_ret3
    exact hno _ hd1.below
  · have hno := store_no (w := w) (store_false (zs := zs) (l := l) (fun hh => by omega))
    have hin := inR_yes hl
    obtain ⟨q, hq1⟩ : ∃ q, placeI zs l = q := ⟨_, rfl⟩
    have hq' : ∀ (w' : World) (hd : Drew w w'), Calls Try.prog 64 #[.slice (some ⟨b, off, none⟩) n cap, (.int .i64 l)] w' (Rs (.int .i64 q) w') := fun w' hd => hq1 ▸ hpl w' hd l
    have hq2 : decide (0 ≤ q) = true := decide_eq_true (hq1 ▸ hq)
    clear hl hq hq1 hpl
    go_enter Try.func16, Try.ntmps16
    go_wp2_with (first | (go_at_call 62; refine (spec_validHarp_s h).mono ?_; rintro e w1 ⟨rfl, hd1⟩) | (go_at_call 63; refine (inRange_c _ _ _ _).mono ?_; rintro e w2 ⟨rfl, rfl⟩) | (go_at_call 64; refine (hq' _ hd1).mono ?_; rintro e w2 ⟨rfl, rfl⟩))
    go_ret3
    exact hno _ hd1.below
  · have hno := store_no (w := w) (store_false (zs := zs) (l := l) (fun hh => by omega))
    have hin := inR_yes hl
    obtain ⟨q, hq1⟩ : ∃ q, placeI zs l = q := ⟨_, rfl⟩
    have hq' : ∀ (w' : World) (hd : Drew w w'), Calls Try.prog 64 #[.slice (some ⟨b, off, none⟩) n cap, (.int .i64 l)] w' (Rs (.int .i64 q) w') := fun w' hd => hq1 ▸ hpl w' hd l
    have hr' : ∀ (w' : World) (hd : Drew w w'), Calls Try.prog 64 #[.slice (some ⟨b, off, none⟩) n cap, (.int .i64 0)] w' (Rs (.int .i64 (-1)) w') := fun w' hd => hr ▸ hpl w' hd 0
    have hq2 : q < 0 := hq1 ▸ hq
    have hl1 := hl.1
    clear hl hq hq1 hpl hr
    go_enter Try.func16, Try.ntmps16
    go_wp2_with (first | (go_at_call 62; refine (spec_validHarp_s h).mono ?_; rintro e w1 ⟨rfl, hd1⟩) | (go_at_call 63; refine (inRange_c _ _ _ _).mono ?_; rintro e w2 ⟨rfl, rfl⟩) | (go_at_call_of 64 (Value.int IntKind.i64 l); refine (hq' _ hd1).mono ?_; rintro e w2 ⟨rfl, rfl⟩) | (go_at_call 64; refine (hr' _ hd1).mono ?_; rintro e w2 ⟨rfl, rfl⟩))
    go_ret3
    exact hno _ hd1.below
  · have hyes := store_yes (w := w) (storeOk_iff.2 ⟨hv, hl.1, hl.2, hq, by omega⟩) hr
    have hin := inR_yes hl
    obtain ⟨q, hq1⟩ : ∃ q, placeI zs l = q := ⟨_, rfl⟩
    have hq' : ∀ (w' : World) (hd : Below w.heap.size w w'), Calls Try.prog 64 #[.slice (some ⟨b, off, none⟩) n cap, (.int .i64 l)] w' (Rs (.int .i64 q) w') := fun w' hd => hq1 ▸ placeIn_s (h.below hd)
    have hr' : ∀ (w' : World) (hd : Below w.heap.size w w'), Calls Try.prog 64 #[.slice (some ⟨b, off, none⟩) n cap, (.int .i64 0)] w' (Rs (.int .i64 ((k : Int))) w') := fun w' hd => hr ▸ placeIn_s (h.below hd)
    have hq2 : q < 0 := hq1 ▸ hq
    have HN : Hid (zs.length = n) := h.len
    have hl1 := hl.1
    clear hl hq hq1 hpl hr
    go_enter Try.func16, Try.ntmps16
    go_wp2_with (first | (go_at_call 62; refine (spec_validHarp_s h).mono ?_; rintro e w1 ⟨rfl, hd1⟩; have hB1 := hd1.below) | (go_at_call 63; refine (inRange_c _ _ _ _).mono ?_; rintro e w2 ⟨rfl, rfl⟩) | (go_at_call_of 64 (Value.int IntKind.i64 l); refine (hq' _ hB1).mono ?_; rintro e w2 ⟨rfl, rfl⟩) | (go_at_call 64; refine (hr' _ hB1).mono ?_; rintro e w2 ⟨rfl, rfl⟩))
    refine (FrN.c h.len (spec_copyInts_s (h.drew hd1))).mono ?_
    rintro e w2 ⟨g, c, rfl, ho, hb2⟩
    have hB2 := hB1.trans (hb2.mono hB1.size)
    have hz1 := hB1.size
    have hf := own_facts ho k
    have hcell := hf.1 hk
    have hfz := hf.2
    have hst := own_set ho k l
    have hgb := (Own.at ho).2.1
    go_wp2_with fail
    refine (hr' _ hB2).mono ?_
    rintro e _ ⟨rfl, rfl⟩
    go_wp2_with fail
    refine (hr' _ (hB2.setCell (p := ⟨g, k, none⟩) (Nat.le_trans hz1 hgb) _)).mono ?_
    rintro e _ ⟨rfl, rfl⟩
    go_wp2_with fail
    go_ret3
    exact hyes _ _ (hst.le hz1) (hB2.setCell (p := ⟨g, k, none⟩) (Nat.le_trans hz1 hgb) _)
theorem sContains_s {b off n cap : Nat} {zs : List Int} {x : Int} {w : World} (h : Sl w b off n cap zs) :
    Calls Try.prog 59 #[.slice (some ⟨b, off, none⟩) n cap, (.int .i64 x)] w (Rs (.bool (decide (0 ≤ placeI zs x))) w) := by
  obtain ⟨q, hq1⟩ : ∃ q, placeI zs x = q := ⟨_, rfl⟩
  have hq' : Calls Try.prog 60 #[.slice (some ⟨b, off, none⟩) n cap, (.int .i64 x)] w (Rs (.int .i64 q) w) := hq1 ▸ sIndex_s h
  rw [hq1]
  clear hq1
  go_enter Try.func59, Try.ntmps59
  go_wp2_with (go_at_call 60; refine hq'.mono ?_; rintro e w1 ⟨rfl, rfl⟩)
  go_ret
  exact ⟨rfl, rfl⟩
theorem impl_StoreIn_s {b off n cap : Nat} {zs : List Int} {l : Int} {w : World} (h : Sl w b off n cap zs) :
    Calls Try.prog 15 #[.slice (some ⟨b, off, none⟩) n cap, (.int .i64 l)] w (FrX 3 (fun v => .tuple #[v, (.int .i64 (storeAt zs l)), .bool (storeOk zs l)]) (storeR zs l) w) := by
  have hs := h.small
  rcases store_cases zs l n h.len with hv | ⟨hv, hl⟩ | ⟨hv, hl, hq⟩ | ⟨hv, hl, hq, hr⟩ | ⟨hv, hl, hq, k, hk, hr⟩
  · have hno := store_no (w := w) (store_false (zs := zs) (l := l) (by rw [hv]; simp))
    go_enter Try.func15, Try.ntmps15
    go_wp2_with (go_at_call 21; refine (impl_ValidHarp_s h).mono ?_; rintro e w1 ⟨rfl, rfl⟩)
    go_ret3
    exact hno _ (Below.refl _ _)
  · have hno := store_no (w := w) (store_false (zs := zs) (l := l) (fun hh => hl ⟨hh.2.1, hh.2.2.1⟩))
    by_cases h1 : 1 ≤ l
    · have h2 : ¬ l ≤ 9999 := fun hh => hl ⟨h1, hh⟩
      clear hl
      go_enter Try.func15, Try.ntmps15
      go_wp2_with (go_at_call 21; refine (impl_ValidHarp_s h).mono ?_; rintro e w1 ⟨rfl, rfl⟩)
      go_ret3
      exact hno _ (Below.refl _ _)
    · clear hl
      go_enter Try.func15, Try.ntmps15
      go_wp2_with (go_at_call 21; refine (impl_ValidHarp_s h).mono ?_; rintro e w1 ⟨rfl, rfl⟩)
      go_ret3
      exact hno _ (Below.refl _ _)
  · have hno := store_no (w := w) (store_false (zs := zs) (l := l) (fun hh => by omega))
    have hct : Calls Try.prog 59 #[.slice (some ⟨b, off, none⟩) n cap, (.int .i64 l)] w (Rs (.bool true) w) := by
      have := sContains_s (x := l) h; rwa [decide_eq_true hq] at this
    obtain ⟨hl1, hl2⟩ := hl
    clear hq
    go_enter Try.func15, Try.ntmps15
    go_wp2_with (first | (go_at_call 21; refine (impl_ValidHarp_s h).mono ?_; rintro e w1 ⟨rfl, rfl⟩) | (go_at_call 59; refine hct.mono ?_; rintro e w1 ⟨rfl, rfl⟩))
    go_ret3
    exact hno _ (Below.refl _ _)
  · have hno := store_no (w := w) (store_false (zs := zs) (l := l) (fun hh => by omega))
    have hct : Calls Try.prog 59 #[.slice (some ⟨b, off, none⟩) n cap, (.int .i64 l)] w (Rs (.bool false) w) := by
      have := sContains_s (x := l) h; rwa [decide_eq_false (by omega)] at this
    have hix : Calls Try.prog 60 #[.slice (some ⟨b, off, none⟩) n cap, (.int .i64 0)] w (Rs (.int .i64 (-1)) w) := hr ▸ sIndex_s h
    obtain ⟨hl1, hl2⟩ := hl
    clear hq hr
    go_enter Try.func15, Try.ntmps15
    go_wp2_with (first | (go_at_call 21; refine (impl_ValidHarp_s h).mono ?_; rintro e w1 ⟨rfl, rfl⟩) | (go_at_call 59; refine hct.mono ?_; rintro e w1 ⟨rfl, rfl⟩) | (go_at_call 60; refine hix.mono ?_; rintro e w1 ⟨rfl, rfl⟩))
    go_ret3
    exact hno _ (Below.refl _ _)
  · have hyes := store_yes (w := w) (storeOk_iff.2 ⟨hv, hl.1, hl.2, hq, by omega⟩) hr
    have hct : Calls Try.prog 59 #[.slice (some ⟨b, off, none⟩) n cap, (.int .i64 l)] w (Rs (.bool false) w) := by
      have := sContains_s (x := l) h; rwa [decide_eq_false (by omega)] at this
    have hix : Calls Try.prog 60 #[.slice (some ⟨b, off, none⟩) n cap, (.int .i64 0)] w (Rs (.int .i64 ((k : Int))) w) := hr ▸ sIndex_s h
    have HN : Hid (zs.length = n) := h.len
    obtain ⟨hl1, hl2⟩ := hl
    clear hq hr
    go_enter Try.func15, Try.ntmps15
    go_wp2_with (first | (go_at_call 21; refine (impl_ValidHarp_s h).mono ?_; rintro e w1 ⟨rfl, rfl⟩) | (go_at_call 59; refine hct.mono ?_; rintro e w1 ⟨rfl, rfl⟩) | (go_at_call 60; refine hix.mono ?_; rintro e w1 ⟨rfl, rfl⟩))
    refine (FrN.c h.len (sClone_s h)).mono ?_
    rintro e w2 ⟨g, c, rfl, ho, hb2⟩
    have hf := own_facts ho k
    have hcell := hf.1 hk
    have hfz := hf.2
    have hst := own_set ho k l
    have hgb := (Own.at ho).2.1
    go_wp2_with fail
    go_ret3
    exact hyes _ _ hst (hb2.setCell hgb _)

end Go.Proofs.Ytddpjgcodnfbjaa
