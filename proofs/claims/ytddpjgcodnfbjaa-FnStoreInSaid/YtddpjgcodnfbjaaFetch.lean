/- FetchFrom (spec and impl), and the walk of its exact law; no statement is proved here. -/
import Derived.Test.YtddpjgcodnfbjaaStore
namespace Go.Proofs.Ytddpjgcodnfbjaa
open Go.ChangeShapes Go.WideShapes Go.ChangeAt Go.RowKit
set_option linter.unusedVariables false
set_option linter.unusedSimpArgs false

@[irreducible] def fetchOk (zs : List Int) (l : Int) : Bool := vHarp zs && decide (1 ≤ l ∧ l ≤ 9999 ∧ 0 ≤ placeI zs l)
def fetchR (zs : List Int) (l : Int) : List Int := if fetchOk zs l = true then zs.set (placeI zs l).toNat 0 else []
@[irreducible] def fetchAt (zs : List Int) (l : Int) : Int := if fetchOk zs l = true then placeI zs l else 0
theorem fetchOk_iff {zs : List Int} {l : Int} : fetchOk zs l = true ↔ vHarp zs = true ∧ 1 ≤ l ∧ l ≤ 9999 ∧ 0 ≤ placeI zs l := by unfold fetchOk; simp
theorem fetchR_short {zs : List Int} {l : Int} (h : zs.length ≤ 1048576) : (fetchR zs l).length ≤ 1048576 := by unfold fetchR; split <;> simp; exact h
theorem fetch_no {zs : List Int} {l : Int} {w : World} (h : fetchOk zs l = false) (w' : World) (hb : Below w.heap.size w w') : FrX 3 (fun v => .tuple #[v, (.int .i64 (fetchAt zs l)), .bool (fetchOk zs l)]) (fetchR zs l) w (.returned (.tuple #[.slice none 0 0, (.int .i64 0), .bool false])) w' := by
  refine ⟨.slice none 0 0, ?_, ?_, hb⟩
  · unfold fetchAt; rw [h]; rfl
  · have e : fetchR zs l = [] := by unfold fetchR; rw [h]; rfl
    rw [e]; exact own_nil _ _ _
theorem fetch_yes {zs : List Int} {l : Int} {k : Nat} {w : World} (h : fetchOk zs l = true) (hk : placeI zs l = k) (v : Value) (w' : World) (ho : Own w' w.heap.size 3 v (zs.set k 0)) (hb : Below w.heap.size w w') : FrX 3 (fun v => .tuple #[v, (.int .i64 (fetchAt zs l)), .bool (fetchOk zs l)]) (fetchR zs l) w (.returned (.tuple #[v, (.int .i64 ((k : Int))), .bool true])) w' := by
  refine ⟨v, ?_, ?_, hb⟩
  · unfold fetchAt; rw [h, hk]; rfl
  · have e : fetchR zs l = zs.set k 0 := by unfold fetchR; rw [h, hk]; rfl
    rw [e]; exact ho
theorem fetch_cases (zs : List Int) (l : Int) (n : Nat) (hn : zs.length = n) : vHarp zs = false ∨ (vHarp zs = true ∧ ¬ (1 ≤ l ∧ l ≤ 9999)) ∨ (vHarp zs = true ∧ (1 ≤ l ∧ l ≤ 9999) ∧ placeI zs l = -1) ∨
    (vHarp zs = true ∧ (1 ≤ l ∧ l ≤ 9999) ∧ ∃ k : Nat, k < n ∧ placeI zs l = k) := by
  cases hv : vHarp zs
  · exact .inl rfl
  · by_cases c2 : 1 ≤ l ∧ l ≤ 9999
    · rcases placeI_cases zs l with ⟨h, _⟩ | ⟨k, hk, h, _⟩
      · exact .inr (.inr (.inl ⟨rfl, c2, h⟩))
      · exact .inr (.inr (.inr ⟨rfl, c2, k, by omega, h⟩))
    · exact .inr (.inl ⟨rfl, c2⟩)
theorem fetch_false {zs : List Int} {l : Int} (h : ¬ (vHarp zs = true ∧ 1 ≤ l ∧ l ≤ 9999 ∧ 0 ≤ placeI zs l)) : fetchOk zs l = false := by
  cases hh : fetchOk zs l
  · rfl
  · exact absurd (fetchOk_iff.1 hh) h
theorem spec_FetchFrom_s {b off n cap : Nat} {zs : List Int} {l : Int} {w : World} (h : Sl w b off n cap zs) :
    Calls Try.prog 55 #[.slice (some ⟨b, off, none⟩) n cap, (.int .i64 l)] w (FrX 3 (fun v => .tuple #[v, (.int .i64 (fetchAt zs l)), .bool (fetchOk zs l)]) (fetchR zs l) w) := by
  have hs := h.small
  rcases fetch_cases zs l n h.len with hv | ⟨hv, hl⟩ | ⟨hv, hl, hr⟩ | ⟨hv, hl, k, hk, hr⟩
  · have hno := fetch_no (w := w) (fetch_false (zs := zs) (l := l) (by rw [hv]; simp))
    go_enter Try.func55, Try.ntmps55
    go_wp2_with (go_at_call 62; refine (spec_validHarp_s h).mono ?_; rintro e w1 ⟨rfl, hd1⟩)
    go_ret3
    exact hno _ hd1.below
  · have hno := fetch_no (w := w) (fetch_false (zs := zs) (l := l) (fun hh => hl ⟨hh.2.1, hh.2.2.1⟩))
    have hin := inR_no hl
    clear hl
    go_enter Try.func55, Try.ntmps55
    go_wp2_with (first | (go_at_call 62; refine (spec_validHarp_s h).mono ?_; rintro e w1 ⟨rfl, hd1⟩) | (go_at_call 63; refine (inRange_c _ _ _ _).mono ?_; rintro e w2 ⟨rfl, rfl⟩))
    go_ret3
    exact hno _ hd1.below
  · have hno := fetch_no (w := w) (fetch_false (zs := zs) (l := l) (fun hh => by omega))
    have hin := inR_yes hl
    have hr' : ∀ (w' : World) (hd : Below w.heap.size w w'), Calls Try.prog 64 #[.slice (some ⟨b, off, none⟩) n cap, (.int .i64 l)] w' (Rs (.int .i64 (-1)) w') := fun w' hd => hr ▸ placeIn_s (h.below hd)
    clear hl hr
    go_enter Try.func55, Try.ntmps55
    go_wp2_with (first | (go_at_call 62; refine (spec_validHarp_s h).mono ?_; rintro e w1 ⟨rfl, hd1⟩) | (go_at_call 63; refine (inRange_c _ _ _ _).mono ?_; rintro e w2 ⟨rfl, rfl⟩) | (go_at_call 64; refine (hr' _ hd1.below).mono ?_; rintro e w2 ⟨rfl, rfl⟩))
    go_ret3
    exact hno _ hd1.below
  · have hyes := fetch_yes (w := w) (fetchOk_iff.2 ⟨hv, hl.1, hl.2, by omega⟩) hr
    have hin := inR_yes hl
    have hr' : ∀ (w' : World) (hd : Below w.heap.size w w'), Calls Try.prog 64 #[.slice (some ⟨b, off, none⟩) n cap, (.int .i64 l)] w' (Rs (.int .i64 ((k : Int))) w') := fun w' hd => hr ▸ placeIn_s (h.below hd)
    clear hl hr
    go_enter Try.func55, Try.ntmps55
    go_wp2_with (first | (go_at_call 62; refine (spec_validHarp_s h).mono ?_; rintro e w1 ⟨rfl, hd1⟩; have hB1 := hd1.below) | (go_at_call 63; refine (inRange_c _ _ _ _).mono ?_; rintro e w2 ⟨rfl, rfl⟩) | (go_at_call 64; refine (hr' _ hB1).mono ?_; rintro e w2 ⟨rfl, rfl⟩))
    refine (FrN.c h.len (spec_copyInts_s (h.drew hd1))).mono ?_
    rintro e w2 ⟨g, c, rfl, ho, hb2⟩
    have hB2 := hB1.trans (hb2.mono hB1.size)
    have hz1 := hB1.size
    have hf := own_facts ho k
    have hcell := hf.1 hk
    have hfz := hf.2
    have hst := own_set ho k 0
    have hgb := (Own.at ho).2.1
    go_wp2_with fail
    refine (hr' _ hB2).mono ?_
    rintro e _ ⟨rfl, rfl⟩
    go_wp2_with fail
    refine (hr' _ (hB2.setCell (p := ⟨g, k, none⟩) (Nat.le_trans hz1 hgb) _)).mono ?_
    rintro e _ ⟨rfl, rfl⟩
    go_wp2_with fail
    go_ret3
    exact hyes _ _ (hst.le hz1) (hB2.setCell (p := ⟨g, k, none⟩) (Nat.le_trans hz1 hgb) _)
theorem impl_FetchFrom_s {b off n cap : Nat} {zs : List Int} {l : Int} {w : World} (h : Sl w b off n cap zs) :
    Calls Try.prog 18 #[.slice (some ⟨b, off, none⟩) n cap, (.int .i64 l)] w (FrX 3 (fun v => .tuple #[v, (.int .i64 (fetchAt zs l)), .bool (fetchOk zs l)]) (fetchR zs l) w) := by
  have hs := h.small
  rcases fetch_cases zs l n h.len with hv | ⟨hv, hl⟩ | ⟨hv, hl, hr⟩ | ⟨hv, hl, k, hk, hr⟩
  · have hno := fetch_no (w := w) (fetch_false (zs := zs) (l := l) (by rw [hv]; simp))
    go_enter Try.func18, Try.ntmps18
    go_wp2_with (go_at_call 21; refine (impl_ValidHarp_s h).mono ?_; rintro e w1 ⟨rfl, rfl⟩)
    go_ret3
    exact hno _ (Below.refl _ _)
  · have hno := fetch_no (w := w) (fetch_false (zs := zs) (l := l) (fun hh => hl ⟨hh.2.1, hh.2.2.1⟩))
    by_cases h1 : 1 ≤ l
    · have h2 : ¬ l ≤ 9999 := fun hh => hl ⟨h1, hh⟩
      clear hl
      go_enter Try.func18, Try.ntmps18
      go_wp2_with (go_at_call 21; refine (impl_ValidHarp_s h).mono ?_; rintro e w1 ⟨rfl, rfl⟩)
      go_ret3
      exact hno _ (Below.refl _ _)
    · clear hl
      go_enter Try.func18, Try.ntmps18
      go_wp2_with (go_at_call 21; refine (impl_ValidHarp_s h).mono ?_; rintro e w1 ⟨rfl, rfl⟩)
      go_ret3
      exact hno _ (Below.refl _ _)
  · have hno := fetch_no (w := w) (fetch_false (zs := zs) (l := l) (fun hh => by omega))
    have hix : Calls Try.prog 60 #[.slice (some ⟨b, off, none⟩) n cap, (.int .i64 l)] w (Rs (.int .i64 (-1)) w) := hr ▸ sIndex_s h
    obtain ⟨hl1, hl2⟩ := hl
    clear hr
    go_enter Try.func18, Try.ntmps18
    go_wp2_with (first | (go_at_call 21; refine (impl_ValidHarp_s h).mono ?_; rintro e w1 ⟨rfl, rfl⟩) | (go_at_call 60; refine hix.mono ?_; rintro e w1 ⟨rfl, rfl⟩))
    go_ret3
    exact hno _ (Below.refl _ _)
  · have hyes := fetch_yes (w := w) (fetchOk_iff.2 ⟨hv, hl.1, hl.2, by omega⟩) hr
    have hix : Calls Try.prog 60 #[.slice (some ⟨b, off, none⟩) n cap, (.int .i64 l)] w (Rs (.int .i64 ((k : Int))) w) := hr ▸ sIndex_s h
    obtain ⟨hl1, hl2⟩ := hl
    clear hr
    go_enter Try.func18, Try.ntmps18
    go_wp2_with (first | (go_at_call 21; refine (impl_ValidHarp_s h).mono ?_; rintro e w1 ⟨rfl, rfl⟩) | (go_at_call 60; refine hix.mono ?_; rintro e w1 ⟨rfl, rfl⟩))
    refine (FrN.c h.len (sClone_s h)).mono ?_
    rintro e w2 ⟨g, c, rfl, ho, hb2⟩
    have hf := own_facts ho k
    have hcell := hf.1 hk
    have hfz := hf.2
    have hst := own_set ho k 0
    have hgb := (Own.at ho).2.1
    go_wp2_with fail
    go_ret3
    exact hyes _ _ hst (hb2.setCell (p := ⟨g, k, none⟩) hgb _)

end Go.Proofs.Ytddpjgcodnfbjaa
