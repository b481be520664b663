/- SumsOf and LowerTo of spec, and SumsOf of impl; no statement is proved here. -/
import Derived.Test.YtddpjgcodnfbjaaArr
namespace Go.Proofs.Ytddpjgcodnfbjaa
open Go.ChangeShapes Go.WideShapes Go.ChangeAt Go.RowKit
set_option linter.unusedVariables false
set_option linter.unusedSimpArgs false

def sumsR (zs : List Int) (a : Int) : List Int := if vLen zs = true ∧ 0 ≤ a ∧ a ≤ 200 then sums zs zs.length (a.toNat + 1) else []
theorem sumsR_short {zs : List Int} {a : Int} : (sumsR zs a).length ≤ 1048576 := by
  unfold sumsR; split
  · have := sums_length zs zs.length (a.toNat + 1); omega
  · simp
theorem spec_SumsOf_s {b off n cap : Nat} {zs : List Int} {a : Int} {w : World} (h : Sl w b off n cap zs) :
    Calls Try.prog 37 #[.slice (some ⟨b, off, none⟩) n cap, (.int .i64 a)] w (FrX 3 (fun v => v) (sumsR zs a) w) := by
  cases hv : vLen zs
  · have e : Hid (sumsR zs a = []) := by show _ = _; unfold sumsR; rw [hv]; simp
    have hvl := spec_validLengths_s h
    rw [hv] at hvl
    go_enter Try.func37, Try.ntmps37
    go_wp2_with (go_at_call 71; refine hvl.mono ?_; rintro e w1 ⟨rfl, rfl⟩)
    go_ret
    exact ⟨_, rfl, e.out ▸ own_nil _ _ _, Below.refl _ _⟩
  · have hvl := spec_validLengths_s h
    rw [hv] at hvl
    by_cases ha : 0 ≤ a ∧ a ≤ 200
    · obtain ⟨l, rfl⟩ : ∃ l : Nat, a = l := ⟨a.toNat, by omega⟩
      have e : Hid (sumsR zs l = sums zs n (l + 1)) := by show _ = _; unfold sumsR; rw [if_pos ⟨hv, ha⟩, h.len]; simp
      have hin := inR_yes ha
      have hso := spec_sumsOf_s (lim := l) h (by have := (vLen_iff.1 hv).2; rwa [h.len] at this) (by omega)
      clear hv ha
      go_enter Try.func37, Try.ntmps37
      go_wp2_with (first | (go_at_call 71; refine hvl.mono ?_; rintro e w1 ⟨rfl, rfl⟩) | (go_at_call 63; refine (inRange_c _ _ _ _).mono ?_; rintro e w1 ⟨rfl, rfl⟩) | (go_at_call 74; refine hso.mono ?_; rintro e w1 ⟨g, c, rfl, ho, hb⟩))
      go_ret
      exact ⟨_, rfl, e.out ▸ ho, hb⟩
    · have e : Hid (sumsR zs a = []) := by show _ = _; unfold sumsR; rw [if_neg (fun hh => ha hh.2)]
      have hin := inR_no ha
      clear ha hv
      go_enter Try.func37, Try.ntmps37
      go_wp2_with (first | (go_at_call 71; refine hvl.mono ?_; rintro e w1 ⟨rfl, rfl⟩) | (go_at_call 63; refine (inRange_c _ _ _ _).mono ?_; rintro e w1 ⟨rfl, rfl⟩))
      go_ret
      exact ⟨_, rfl, e.out ▸ own_nil _ _ _, Below.refl _ _⟩
set_option maxHeartbeats 1000000 in
theorem impl_SumsOf_s {b off n cap : Nat} {zs : List Int} {a : Int} {w : World} (h : Sl w b off n cap zs) :
    Calls Try.prog 35 #[.slice (some ⟨b, off, none⟩) n cap, (.int .i64 a)] w (FrX 3 (fun v => v) (sumsR zs a) w) := by
  have hs := h.small
  have HN := mkhid h.len
  by_cases hc : 0 ≤ a ∧ a ≤ 200 ∧ n ≤ 24
  · obtain ⟨ha1, ha2, hn⟩ := hc
    obtain ⟨l, rfl⟩ : ∃ l : Nat, a = l := ⟨a.toNat, by omega⟩
    have d1 : decide ((l : Int) < 0) = false := decide_eq_false (by omega)
    have d2 : decide (200 < (l : Int)) = false := decide_eq_false (by omega)
    have d3 : decide (24 < (n : Int)) = false := decide_eq_false (by omega)
    go_enter Try.func35, Try.ntmps35
    go_wp2_with fail
    go_loop [6, 25] (fun _ i => ∃ k : Nat, k ≤ n ∧ i = .int .i64 k ∧ okLen zs k) (fun _ i => n - (intOf i).toNat)
    case atStart => exact ⟨0, Nat.zero_le _, rfl, fun i hi => by omega⟩
    case round =>
      obtain ⟨k, hk, rfl, HB⟩ := hrel
      by_cases hlt : k < n
      · have hcell := h.cell hlt
        by_cases h1 : 1 ≤ el zs k
        · have e1 : decide (el zs k < 1) = false := decide_eq_false (by omega)
          by_cases h2 : el zs k ≤ 200
          · have e2 : decide (200 < el zs k) = false := decide_eq_false (by omega)
            have hok := mkhid (okLen_succ HB ⟨h1, h2⟩)
            go_wp2
            go_round
            case rel => exact ⟨k + 1, by omega, by go_num, hok.out⟩
            case measure => simp [intOf]; omega
          · have e2 : decide (200 < el zs k) = true := decide_eq_true (by omega)
            have hv : Hid (sumsR zs l = []) := by show _ = _; unfold sumsR; rw [vLen_no (by rw [HN.out]; exact hlt) (fun hh => h2 hh.2)]; simp
            go_wp2
            go_ret
            exact ⟨_, rfl, hv.out ▸ own_nil _ _ _, Below.refl _ _⟩
        · have e1 : decide (el zs k < 1) = true := decide_eq_true (by omega)
          have hv : Hid (sumsR zs l = []) := by show _ = _; unfold sumsR; rw [vLen_no (by rw [HN.out]; exact hlt) (fun hh => h1 hh.1)]; simp
          go_wp2
          go_ret
          exact ⟨_, rfl, hv.out ▸ own_nil _ _ _, Below.refl _ _⟩
      · have hkn := mkhid (show k = n by omega)
        have HO := mkhid (hkn.out ▸ HB)
        clear HB
        obtain ⟨i0, hi, hz0, hz1, hz2⟩ := info_parts Try.infoInt
        have A0 := (ArrB.new w).below ((Below.refl _ _).alloc (Nat.le_refl _) (.cells #[.int .i64 0] 3))
        have bb0 : Below w.heap.size w ((w.alloc (.cells (Try.zeroCells61.setIfInBounds 0 (.bool true)) 61)).alloc (.cells #[.int .i64 0] 3)) := ((Below.refl _ _).alloc (Nat.le_refl _) _).alloc (by simp) _
        have S0 : Own ((w.alloc (.cells (Try.zeroCells61.setIfInBounds 0 (.bool true)) 61)).alloc (.cells #[.int .i64 0] 3)) w.heap.size 3 (.slice (some ⟨w.heap.size + 1, 0, none⟩) 1 1) (sums zs n 1) := by
          rw [sums_one]
          have := World.ownsRow_lit (size := 1) (base := w.heap.size) (e := 3) (w.alloc (.cells (Try.zeroCells61.setIfInBounds 0 (.bool true)) 61)) #[.int .i64 0] 1 (by simp) (by unfold maxLen; omega) rfl
          simpa [Own] using this
        have A1 := A0.congr (fun i _ => onF_one zs n i)
        clear A0
        go_wp2_with fail
        go_loopw [8, 9, 11, 45] (fun s q _ _ wr => ∃ k : Nat, 1 ≤ k ∧ k ≤ l + 1 ∧ q = .int .i64 k ∧ Own wr w.heap.size 3 s (sums zs n k) ∧ ArrB wr w.heap.size (onF zs n k) ∧ Hid (s.ownBlock = none ∨ s.ownBlock ≠ some w.heap.size) ∧ Below w.heap.size w wr) (fun _ q _ _ _ => l + 1 - (intOf q).toNat)
        case atStart => exact ⟨1, Nat.le_refl _, by omega, rfl, S0, A1, .inr (fun e => by injection e with e; have : w.heap.size + 1 = w.heap.size := e; omega), bb0⟩
        case round =>
          obtain ⟨k, hk1, hk, rfl, ho, hA, hap, hbr⟩ := hrel
          clear S0 A1 bb0
          by_cases hlt2 : k ≤ l
          · have i1 : (0 : Int) ≤ (k : Int) := by omega
            have A2 := hA.congr (f' := fun i => if i = k then onX zs n k 0 else onF zs n k i) (fun i _ => by
              by_cases e : i = k
              · rw [if_pos e, e, onF_high zs n k k (Nat.le_refl _), onX_zero]; simp; omega
              · rw [if_neg e])
            go_wp2_with fail
            go_loopw [11, 45] (fun _ i wr => ∃ m : Nat, m ≤ n ∧ i = .int .i64 m ∧ Own wr w.heap.size 3 u8 (sums zs n k) ∧ ArrB wr w.heap.size (fun i => if i = k then onX zs n k m else onF zs n k i) ∧ Below w.heap.size w wr) (fun _ i _ => n - (intOf i).toNat)
            case atStart => exact ⟨0, Nat.zero_le _, rfl, ho, A2, hbr⟩
            case round =>
              obtain ⟨m, hm, rfl, ho, hA, hb3⟩ := hrel
              clear A2 hbr
              have fk := (hA.2 k (by omega)).1
              have fz := (hA.2 k (by omega)).2
              simp only [if_true] at fk
              by_cases hmn : m < n
              · have c1 := (h.below hb3).cell hmn
                have hbd := HO.out m hmn
                have hA3 : onX zs n k (m + 1) = onX zs n k m → ArrB wr w.heap.size (fun i => if i = k then onX zs n k (m + 1) else onF zs n k i) := fun hu => hA.congr (fun i _ => by by_cases e : i = k <;> simp [e, hu])
                obtain ⟨x, hx⟩ : ∃ x : Nat, el zs m = x := ⟨(el zs m).toNat, by omega⟩
                have hsu := onX_succ zs n k m
                rw [hx, Int.toNat_natCast] at hsu
                rw [hx] at c1 hbd
                by_cases hle : x ≤ k
                · have hle' : decide ((x : Int) ≤ (k : Int)) = true := decide_eq_true (by omega)
                  have fj := (hA.2 (k - x) (by omega)).1
                  simp only [show ¬ (k - x = k) by omega, if_false] at fj
                  have q1 : ((k : Int) - x).toNat = k - x := by omega
                  have q2 : (0 : Int) ≤ (k : Int) - x := by omega
                  have q3 : (k : Int) - x < 201 := by omega
                  have q4 : (k : Int) < 201 := by omega
                  rw [hle'] at hsu
                  cases hv : onF zs n k (k - x)
                  · rw [hv] at fj hsu
                    have A3 := hA3 (by rw [hsu]; simp)
                    clear hsu hv hA hA3 fk
                    go_wp2
                    go_roundw
                    case rel => exact ⟨m + 1, by omega, by go_num, ho, A3, hb3⟩
                    case measure => simp [intOf]; omega
                  · rw [hv] at fj hsu
                    have A3 := (hA.set (j := k) (by omega) true).congr (f' := fun i => if i = k then onX zs n k (m + 1) else onF zs n k i) (fun i _ => by by_cases e : i = k <;> simp [e, hsu])
                    have O2 := own_beside' (j := k) (u := .bool true) (n := 0) (go := 0) (c := 0) ho hap.out
                    have hb4 := hb3.setCell (p := ⟨w.heap.size, k, none⟩) (Nat.le_refl _) (.bool true)
                    clear hsu hv hA hA3 ho
                    go_wp2
                    go_roundw
                    case rel => exact ⟨m + 1, by omega, by go_num, O2, A3, hb4⟩
                    case measure => simp [intOf]; omega
                · have hle' : decide ((x : Int) ≤ (k : Int)) = false := decide_eq_false (by omega)
                  rw [hle'] at hsu
                  have A3 := hA3 (by rw [hsu]; simp)
                  clear hsu hA hA3 fk
                  go_wp2
                  go_roundw
                  case rel => exact ⟨m + 1, by omega, by go_num, ho, A3, hb3⟩
                  case measure => simp [intOf]; omega
              · have hmn2 := mkhid (show m = n by omega)
                have hA := hmn2.out ▸ hA
                have B3 := hA.congr (f' := onF zs n (k + 1)) (fun i _ => (onF_succ zs n k i).symm)
                have hsz := hb3.size
                have q4 : (k : Int) < 201 := by omega
                rw [hmn2.out] at fk
                have hgl := hA.1
                clear hA
                cases hX : onX zs n k n
                · rw [hX] at fk
                  rw [← sums_no hX] at ho
                  clear hX
                  go_wp2
                  go_roundw
                  case rel => exact ⟨k + 1, by omega, by omega, by go_num, ho, B3, hap, hb3⟩
                  case measure => simp [intOf]; omega
                · rw [hX] at fk
                  have hsl := sums_length zs n k
                  have HY := mkhid (sums_yes hX)
                  clear hX
                  go_wp2_with (at_builtin; refine wpList_append_own_at _ rfl (.tmp 65) (.tmp 67) 23 rfl w.heap.size 3 i0 (.int .i64 0) 1 8 Try.underlying23 hi hz0 hz1 hz2 rfl (by decide) _ (sums zs n k).length _ rfl (World.ownsRow.alloc (show World.ownsRow _ w.heap.size 3 1 _ _ _ from ho) _) ⟨_, 0, none⟩ 1 1 [.int .i64 k] rfl rfl (cell_one_at _ _ _ _ (by first | rfl | simp)) (by intro u hu; simp at hu; subst hu; rfl) (by unfold maxLen; omega) (by omega) (by simp; omega) ?_; intro v1 w1 hown1 hgrow1 hnil1 hat1)
                  have ha := own_app hown1
                  rw [← HY.out] at ha
                  have hb5 := below_append hb3 ho hsz hgrow1
                  have B4 : ArrB w1 w.heap.size (onF zs n (k + 1)) := (B3.below ((Below.refl _ _).alloc (Nat.le_refl _) _)).kept hgrow1 hap.out
                  have hap1 : Hid (v1.ownBlock = none ∨ v1.ownBlock ≠ some w.heap.size) := by
                    rcases hat1 with e | e
                    · rcases hap.out with e2 | e2
                      · exact .inl (e.trans e2)
                      · exact .inr (fun e3 => e2 (e.symm.trans e3))
                    · refine .inr (fun e3 => ?_)
                      have e4 := e.symm.trans e3
                      injection e4 with e4
                      simp at e4
                      omega
                  clear hown1 hgrow1 hnil1 hat1 ho B3 hb3 HY hap fk fz
                  go_wp2
                  go_roundw
                  case rel => exact ⟨k + 1, by omega, by omega, by go_num, ha, B4, hap1, hb5⟩
                  case measure => simp [intOf]; omega
          · have i2 : decide ((k : Int) ≤ (l : Int)) = false := decide_eq_false (by omega)
            have hv : Hid (sumsR zs l = sums zs n k) := by
              show _ = _; unfold sumsR
              rw [if_pos ⟨vLen_iff.2 ⟨by rw [HN.out]; exact hn, by rw [HN.out]; exact HO.out⟩, ha1, ha2⟩, HN.out, show k = l + 1 by omega]; simp
            go_wp2
            go_ret
            exact ⟨_, rfl, hv.out ▸ ho, hbr⟩
  · have hv : Hid (sumsR zs a = []) := by
      show _ = _; unfold sumsR; rw [if_neg]
      rintro ⟨h1, h2⟩
      have := (vLen_iff.1 h1).1
      rw [HN.out] at this
      exact hc ⟨h2.1, h2.2, this⟩
    by_cases h1 : a < 0
    · have d1 : decide (a < 0) = true := decide_eq_true h1
      clear hc
      go_enter Try.func35, Try.ntmps35
      go_wp2_with fail
      go_ret
      exact ⟨_, rfl, hv.out ▸ own_nil _ _ _, Below.refl _ _⟩
    · have d1 : decide (a < 0) = false := decide_eq_false h1
      by_cases h2 : 200 < a
      · have d2 : decide (200 < a) = true := decide_eq_true h2
        clear hc
        go_enter Try.func35, Try.ntmps35
        go_wp2_with fail
        go_ret
        exact ⟨_, rfl, hv.out ▸ own_nil _ _ _, Below.refl _ _⟩
      · have d2 : decide (200 < a) = false := decide_eq_false h2
        have d3 : decide (24 < (n : Int)) = true := decide_eq_true (by omega)
        clear hc
        go_enter Try.func35, Try.ntmps35
        go_wp2_with fail
        go_ret
        exact ⟨_, rfl, hv.out ▸ own_nil _ _ _, Below.refl _ _⟩

end Go.Proofs.Ytddpjgcodnfbjaa
