/- Slices of jobs (structs of two ints): what the walks say of them; ValidJobs; no statement is proved here. -/
import Derived.Test.YtglglgfiifjejaaFire
namespace Go.Proofs.Ytglglgfiifjejaa
open Go.ChangeShapes Go.WideShapes Go.ChangeAt Go.RowKit
set_option linter.unusedVariables false
set_option linter.unusedSimpArgs false

/-- a slice of n jobs at b, off: the cutting times cs, the heating times hs -/
structure JSl (w : World) (b off n cap : Nat) (cs hs : List Int) : Prop where
  len1 : cs.length = n
  len2 : hs.length = n
  small : n ≤ 1048576
  cap1 : n ≤ cap
  cap2 : cap ≤ maxLen
  lt : b < w.heap.size
  cell1 : ∀ i, i < n → w.cell? ⟨b, off + i * 2, none⟩ = some (.int .i64 (el cs i))
  cell2 : ∀ i, i < n → w.cell? ⟨b, off + i * 2 + 1, none⟩ = some (.int .i64 (el hs i))
theorem JSl.below {W w : World} {b off n cap : Nat} {cs hs : List Int} (h : JSl W b off n cap cs hs) (hb : Below W.heap.size W w) : JSl w b off n cap cs hs :=
  ⟨h.len1, h.len2, h.small, h.cap1, h.cap2, Nat.lt_of_lt_of_le h.lt hb.size, fun i hi => (hb.cell (p := ⟨b, off + i * 2, none⟩) h.lt).trans (h.cell1 i hi), fun i hi => (hb.cell (p := ⟨b, off + i * 2 + 1, none⟩) h.lt).trans (h.cell2 i hi)⟩
@[irreducible] def vJobs (cs hs : List Int) (n : Nat) : Bool := decide (n ≤ 16 ∧ okTm cs n ∧ okTm hs n)
theorem vJobs_iff {cs hs : List Int} {n : Nat} : vJobs cs hs n = true ↔ n ≤ 16 ∧ okTm cs n ∧ okTm hs n := by unfold vJobs; simp
theorem vJobs_no {cs hs : List Int} {n : Nat} (h : ¬ (n ≤ 16 ∧ okTm cs n ∧ okTm hs n)) : vJobs cs hs n = false := by unfold vJobs; exact decide_eq_false h
theorem spec_validJobs_s {b off n cap : Nat} {cs hs : List Int} {w : World} (h : JSl w b off n cap cs hs) :
    Calls Try.prog 68 #[.slice (some ⟨b, off, none⟩) n cap] w (Rs (.bool (vJobs cs hs n)) w) := by
  have hsm := h.small
  go_enter Try.func68, Try.ntmps68
  go_wp2_with fail
  go_loop [3] (fun i => ∃ k : Nat, k ≤ n ∧ i = .int .i64 k ∧ Hid (okTm cs k) ∧ Hid (okTm hs k)) (fun i => n - (intOf i).toNat)
  case atStart => exact ⟨0, Nat.zero_le _, rfl, fun i hi => by omega, fun i hi => by omega⟩
  case round =>
    obtain ⟨k, hk, rfl, HB, HC⟩ := hrel
    by_cases hlt : k < n
    · have c1 := h.cell1 k hlt
      have c2 := h.cell2 k hlt
      by_cases h1 : 0 ≤ el cs k ∧ el cs k ≤ 500
      · have hin := inR_yes h1
        have hok := mkhid (okTm_succ HB.out h1)
        clear h1
        by_cases h2 : 0 ≤ el hs k ∧ el hs k ≤ 500
        · have hin2 := inR_yes h2
          have hok2 := mkhid (okTm_succ HC.out h2)
          clear h2
          go_wp2_with (go_at_call 73; refine (inRange_c _ _ _ _).mono ?_; rintro e w1 ⟨rfl, rfl⟩)
          go_round
          case rel => exact ⟨k + 1, by omega, by go_num, hok, hok2⟩
          case measure => simp [intOf]; omega
        · have hin2 := inR_no h2
          have hg : Hid (vJobs cs hs n = false) := vJobs_no (fun hh => h2 (hh.2.2 k hlt))
          clear h2
          go_wp2_with (go_at_call 73; refine (inRange_c _ _ _ _).mono ?_; rintro e w1 ⟨rfl, rfl⟩)
          go_ret
          exact ⟨ret_bool hg.out.symm, rfl⟩
      · have hin := inR_no h1
        have hg : Hid (vJobs cs hs n = false) := vJobs_no (fun hh => h1 (hh.2.1 k hlt))
        clear h1
        go_wp2_with (go_at_call 73; refine (inRange_c _ _ _ _).mono ?_; rintro e w1 ⟨rfl, rfl⟩)
        go_ret
        exact ⟨ret_bool hg.out.symm, rfl⟩
    · have hkn := mkhid (show k = n by omega)
      by_cases q : n ≤ 16
      · have d1 : decide ((n : Int) ≤ 16) = true := decide_eq_true (by omega)
        have hg : Hid (vJobs cs hs n = true) := vJobs_iff.2 ⟨q, hkn.out ▸ HB.out, hkn.out ▸ HC.out⟩
        go_wp2
        go_ret
        exact ⟨ret_bool hg.out.symm, rfl⟩
      · have d1 : decide ((n : Int) ≤ 16) = false := decide_eq_false (by omega)
        have hg : Hid (vJobs cs hs n = false) := vJobs_no (fun hh => q hh.1)
        go_wp2
        go_ret
        exact ⟨ret_bool hg.out.symm, rfl⟩
theorem spec_ValidJobs_s {b off n cap : Nat} {cs hs : List Int} {w : World} (h : JSl w b off n cap cs hs) :
    Calls Try.prog 27 #[.slice (some ⟨b, off, none⟩) n cap] w (Rs (.bool (vJobs cs hs n)) w) := by
  go_enter Try.func27, Try.ntmps27
  go_wp2_with (go_at_call 68; refine (spec_validJobs_s h).mono ?_; rintro e w1 ⟨rfl, rfl⟩)
  go_ret
  exact ⟨rfl, rfl⟩
theorem two_sl (w : World) (x y : Int) : Sl (w.alloc (.cells #[.int .i64 x, .int .i64 y] 3)) w.heap.size 0 2 2 [x, y] := by
  have e : ∀ o : Obj, (w.alloc o).heap[w.heap.size]? = some o := fun o => by rw [← World.alloc_eq]; simp
  refine ⟨rfl, by omega, Nat.le_refl _, by unfold maxLen; omega, by simp, fun i hi => ?_⟩
  have hi' : i = 0 ∨ i = 1 := by simp at hi; omega
  rcases hi' with rfl | rfl <;> (unfold World.cell?; simp only [e]; simp [el])
theorem two_at (w : World) (x y : Int) (b : Nat) (hb : w.heap.size = b) : Sl (w.alloc (.cells #[.int .i64 x, .int .i64 y] 3)) b 0 2 2 [x, y] := hb ▸ two_sl w x y
theorem tmB_two (x y : Int) : tmB [x, y] 2 = decide ((0 ≤ x ∧ x ≤ 500) ∧ (0 ≤ y ∧ y ≤ 500)) := by
  rw [Bool.eq_iff_iff, tmB_iff, decide_eq_true_eq]
  constructor
  · rintro ⟨_, h⟩
    exact ⟨h 0 (by omega), h 1 (by omega)⟩
  · rintro ⟨a, b⟩
    refine ⟨by omega, fun i hi => ?_⟩
    have : i = 0 ∨ i = 1 := by omega
    rcases this with rfl | rfl
    · exact a
    · exact b
theorem impl_ValidJobs_s {b off n cap : Nat} {cs hs : List Int} {w : World} (h : JSl w b off n cap cs hs) :
    Calls Try.prog 29 #[.slice (some ⟨b, off, none⟩) n cap] w (Rt (.bool (vJobs cs hs n)) w) := by
  have hsm := h.small
  by_cases q : n ≤ 16
  · have d1 : decide ((16 : Int) < (n : Int)) = false := decide_eq_false (by omega)
    go_enter Try.func29, Try.ntmps29
    go_wp2_with fail
    go_loopw [10] (fun i wr => ∃ k : Nat, k ≤ n ∧ i = .int .i64 k ∧ Hid (okTm cs k) ∧ Hid (okTm hs k) ∧ Below w.heap.size w wr) (fun i _ => n - (intOf i).toNat)
    case atStart => exact ⟨0, Nat.zero_le _, rfl, fun i hi => by omega, fun i hi => by omega, Below.refl _ _⟩
    case round =>
      obtain ⟨k, hk, rfl, HB, HC, hbr⟩ := hrel
      have hsz := hbr.size
      by_cases hlt : k < n
      · have i1 : (0 : Int) ≤ (k : Int) := by omega
        have i2 : (k : Int) < (n : Int) := by omega
        have c1 := (h.below hbr).cell1 k hlt
        have c2 := (h.below hbr).cell2 k hlt
        obtain ⟨x, hx⟩ : ∃ x, x = el cs k := ⟨_, rfl⟩
        obtain ⟨y, hy⟩ : ∃ y, y = el hs k := ⟨_, rfl⟩
        rw [← hx] at c1
        rw [← hy] at c2
        have HX := mkhid hx
        have HY := mkhid hy
        have hlb := (h.below hbr).lt
        clear hx hy
        go_wp2_with fail
        go_at_call 70
        refine (impl_validTimes_s (by exact two_at _ x y _ (by simp))).mono ?_
        rintro e w1 ⟨rfl, rfl⟩
        by_cases h1 : (0 ≤ x ∧ x ≤ 500) ∧ (0 ≤ y ∧ y ≤ 500)
        · rw [tmB_two, decide_eq_true h1]
          have hok := mkhid (okTm_succ HB.out (HX.out ▸ h1.1))
          have hok2 := mkhid (okTm_succ HC.out (HY.out ▸ h1.2))
          clear h1
          go_wp2_with fail
          go_roundw
          case rel => exact ⟨k + 1, by omega, by go_num, hok, hok2, (by repeat' (first | with_reducible exact Below.refl _ _ | with_reducible refine Below.alloc ?_ (by first | omega | (simp; done) | (simp; omega)) _ | with_reducible refine Below.drew ?_ | with_reducible refine below_drewN ?_ _ | with_reducible refine Below.setCell ?_ (by first | omega | (simp; done) | (simp; omega)) _ | with_reducible refine Below.grown ?_ (by assumption) (by first | omega | (simp; done) | (simp; omega)) (by intro k hk; cases hk; omega) | with_reducible refine Below.trans ?_ (Below.mono (by assumption) (by first | omega | (simp; done) | (simp; omega)))))⟩
          case measure => simp [intOf]; omega
        · rw [tmB_two, decide_eq_false h1]
          have hg : Hid (vJobs cs hs n = false) := vJobs_no (fun hh => h1 (by rw [HX.out, HY.out]; exact ⟨hh.2.1 k hlt, hh.2.2 k hlt⟩))
          clear h1
          go_wp2_with fail
          go_ret
          exact ⟨ret_bool hg.out.symm, (by repeat' (first | with_reducible exact Below.refl _ _ | with_reducible refine Below.alloc ?_ (by first | omega | (simp; done) | (simp; omega)) _ | with_reducible refine Below.drew ?_ | with_reducible refine below_drewN ?_ _ | with_reducible refine Below.setCell ?_ (by first | omega | (simp; done) | (simp; omega)) _ | with_reducible refine Below.grown ?_ (by assumption) (by first | omega | (simp; done) | (simp; omega)) (by intro k hk; cases hk; omega) | with_reducible refine Below.trans ?_ (Below.mono (by assumption) (by first | omega | (simp; done) | (simp; omega)))))⟩
      · have hkn := mkhid (show k = n by omega)
        have hg : Hid (vJobs cs hs n = true) := vJobs_iff.2 ⟨q, hkn.out ▸ HB.out, hkn.out ▸ HC.out⟩
        go_wp2
        go_ret
        exact ⟨ret_bool hg.out.symm, hbr⟩
  · have d1 : decide ((16 : Int) < (n : Int)) = true := decide_eq_true (by omega)
    have hg : Hid (vJobs cs hs n = false) := vJobs_no (fun hh => q hh.1)
    go_enter Try.func29, Try.ntmps29
    go_wp2_with fail
    go_ret
    exact ⟨ret_bool hg.out.symm, Below.refl _ _⟩
end Go.Proofs.Ytglglgfiifjejaa
