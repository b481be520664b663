/- What the functions on boxes do (spec and impl), for every argument; no statement is proved here. -/
import Derived.Test.YtjanjaabcinkiaaBase
namespace Go.Proofs.Ytjanjaabcinkiaa
open Go.ChangeShapes Go.WideShapes Go.ChangeAt Go.RowKit
set_option linter.unusedVariables false
set_option linter.unusedSimpArgs false

def vBox (x y w h : Int) : Bool := decide (1 ≤ w ∧ w ≤ 200 ∧ 1 ≤ h ∧ h ≤ 200 ∧ 0 ≤ x ∧ x ≤ 200 - w ∧ 0 ≤ y ∧ y ≤ 200 - h)

theorem toBox_c (x y b h : Int) (w : World) : Calls Try.prog 69 #[(.agg #[.int .i64 x, .int .i64 y, .int .i64 b, .int .i64 h])] w (Rt (.agg #[.int .i64 x, .int .i64 y, .int .i64 b, .int .i64 h]) w) := by
  go_enter Try.func69, Try.ntmps69
  go_wp2
  refine bodyPost_ret (v := (.agg #[.int .i64 x, .int .i64 y, .int .i64 b, .int .i64 h])) (by simp [results, Try.results69, go_sem]) rfl ⟨rfl, ?_⟩
  exact by repeat (first | exact Below.refl _ _ | refine Below.alloc ?_ (by simp; try omega) _ | refine Below.setCell ?_ (by simp; try omega) _)
/-- the same, with the very world -/
theorem toBox_x (x y b h : Int) (w : World) : Calls Try.prog 69 #[(.agg #[.int .i64 x, .int .i64 y, .int .i64 b, .int .i64 h])] w fun e w' => e = .returned (.agg #[.int .i64 x, .int .i64 y, .int .i64 b, .int .i64 h]) ∧ w' = ((w.alloc (.cells #[(.int .i64 x), (.int .i64 y), (.int .i64 b), (.int .i64 h)] 99)).alloc (.cells #[(.int .i64 x), (.int .i64 y), (.int .i64 b), (.int .i64 h)] 78)).alloc (.cells #[(.int .i64 x), (.int .i64 y), (.int .i64 b), (.int .i64 h)] 78) := by
  go_enter Try.func69, Try.ntmps69
  go_wp2
  refine bodyPost_ret (v := (.agg #[.int .i64 x, .int .i64 y, .int .i64 b, .int .i64 h])) (by simp [results, Try.results69, go_sem, *]) rfl ⟨?_, ?_⟩
  · rfl
  · rfl
theorem impl_ValidBox_c (x y b h : Int) (w : World) : Calls Try.prog 76 #[(.agg #[.int .i64 x, .int .i64 y, .int .i64 b, .int .i64 h])] w (Rt (.bool (vBox x y b h)) w) := by
  go_enter Try.func76, Try.ntmps76
  go_wp2
  all_goals (go_ret; refine ⟨ret_bool ?_, Below.alloc (Below.refl _ _) (Nat.le_refl _) _⟩)
  all_goals (rw [Bool.eq_iff_iff]; simp only [vBox, decide_eq_true_eq, true_iff, iff_true, Bool.false_eq_true, false_iff, iff_false, Bool.and_eq_true, Bool.or_eq_true]; omega)
theorem spec_validBox_c (x y b h : Int) (w : World) : Calls Try.prog 93 #[(.agg #[.int .i64 x, .int .i64 y, .int .i64 b, .int .i64 h])] w (Rt (.bool (vBox x y b h)) w) := by
  go_enter Try.func93, Try.ntmps93
  go_wp2
  all_goals (go_ret; refine ⟨ret_bool ?_, Below.alloc (Below.refl _ _) (Nat.le_refl _) _⟩)
  all_goals (rw [Bool.eq_iff_iff]; simp only [vBox, decide_eq_true_eq, true_iff, iff_true, Bool.false_eq_true, false_iff, iff_false, Bool.and_eq_true, Bool.or_eq_true]; omega)
/-- where two boxes meet -/
def mX (ax bx : Int) : Int := if ax < bx then bx else ax
def mN (a b : Int) : Int := if b < a then b else a
def mW (ax aw bx bw : Int) : Int := mN (ax + aw) (bx + bw) - mX ax bx
theorem mX_eq (a b : Int) : mX a b = max a b := by unfold mX; split <;> omega
theorem mN_eq (a b : Int) : mN a b = min a b := by unfold mN; split <;> omega
theorem mW_eq (a b c d : Int) : mW a b c d = min (a + b) (c + d) - max a c := by unfold mW; rw [mX_eq, mN_eq]
def meets (ax ay aw ah bx by' bw bh : Int) : Bool := decide (0 < mW ax aw bx bw ∧ 0 < mW ay ah by' bh)
def meetV (ax ay aw ah bx by' bw bh : Int) : Value := match meets ax ay aw ah bx by' bw bh with
  | true => .tuple #[(.agg #[.int .i64 (mX ax bx), .int .i64 (mX ay by'), .int .i64 (mW ax aw bx bw), .int .i64 (mW ay ah by' bh)]), .bool true]
  | false => .tuple #[(.agg #[.int .i64 0, .int .i64 0, .int .i64 0, .int .i64 0]), .bool false]
def meetVal (ax ay aw ah bx by' bw bh : Int) : Value := match vBox ax ay aw ah && vBox bx by' bw bh with
  | true => meetV ax ay aw ah bx by' bw bh
  | false => .tuple #[(.agg #[.int .i64 0, .int .i64 0, .int .i64 0, .int .i64 0]), .bool false]
theorem vBox_bd {x y b h : Int} (e : vBox x y b h = true) : 1 ≤ b ∧ b ≤ 200 ∧ 1 ≤ h ∧ h ≤ 200 ∧ 0 ≤ x ∧ x ≤ 200 - b ∧ 0 ≤ y ∧ y ≤ 200 - h := by simpa [vBox] using e

set_option maxHeartbeats 1000000 in
theorem impl_MeetOf_c (ax ay aw ah bx by' bw bh : Int) (w : World) : Calls Try.prog 71 #[(.agg #[.int .i64 ax, .int .i64 ay, .int .i64 aw, .int .i64 ah]), (.agg #[.int .i64 bx, .int .i64 by', .int .i64 bw, .int .i64 bh])] w (Rt (meetVal ax ay aw ah bx by' bw bh) w) := by
  by_cases ha : vBox ax ay aw ah = true
  · by_cases hb : vBox bx by' bw bh = true
    · obtain ⟨a1, a2, a3, a4, a5, a6, a7, a8⟩ := vBox_bd ha
      obtain ⟨b1, b2, b3, b4, b5, b6, b7, b8⟩ := vBox_bd hb
      have s1 : IntKind.i64.wrap (ax + aw) = ax + aw := IntWalk.i64_in _ (by omega)
      have s2 : IntKind.i64.wrap (ay + ah) = ay + ah := IntWalk.i64_in _ (by omega)
      have s3 : IntKind.i64.wrap (bx + bw) = bx + bw := IntWalk.i64_in _ (by omega)
      have s4 : IntKind.i64.wrap (by' + bh) = by' + bh := IntWalk.i64_in _ (by omega)
      go_enter Try.func71, Try.ntmps71
      go_wp2_with (first | (go_at_call 76; refine (impl_ValidBox_c _ _ _ _ _).mono ?_; rintro e w1 ⟨rfl, hb1⟩; obtain ⟨hc1, hf1, -, hz1⟩ := bcell hb1; (try simp at hz1); (try (have zw0 : w.heap.size < w1.heap.size := by omega)); (try (have zw1 : w.heap.size + 1 < w1.heap.size := by omega)); (try (have zw2 : w.heap.size + 1 + 1 < w1.heap.size := by omega)); (try (have zw3 : w.heap.size + 1 + 1 + 1 < w1.heap.size := by omega)); (try (have zw4 : w.heap.size + 1 + 1 + 1 + 1 < w1.heap.size := by omega)); (try (have zw5 : w.heap.size + 1 + 1 + 1 + 1 + 1 < w1.heap.size := by omega))))
      have x1 : 0 ≤ mX ax bx ∧ mX ax bx ≤ 200 := by unfold mX; split <;> omega
      have x2 : 0 ≤ mX ay by' ∧ mX ay by' ≤ 200 := by unfold mX; split <;> omega
      have x3 : 0 ≤ mN (ax + aw) (bx + bw) ∧ mN (ax + aw) (bx + bw) ≤ 400 := by unfold mN; split <;> omega
      have x4 : 0 ≤ mN (ay + ah) (by' + bh) ∧ mN (ay + ah) (by' + bh) ≤ 400 := by unfold mN; split <;> omega
      have m1 : (if ax < bx then bx else ax) = mX ax bx := rfl
      have m2 : (if ay < by' then by' else ay) = mX ay by' := rfl
      have m3 : (if bx + bw < ax + aw then bx + bw else ax + aw) = mN (ax + aw) (bx + bw) := rfl
      have m4 : (if by' + bh < ay + ah then by' + bh else ay + ah) = mN (ay + ah) (by' + bh) := rfl
      have q0 : w1.cell? ⟨w.heap.size, 0, none⟩ = some (.int .i64 ax) := by go_simp
      have q1 : w1.cell? ⟨w.heap.size, 1, none⟩ = some (.int .i64 ay) := by go_simp
      have q2 : w1.cell? ⟨w.heap.size, 2, none⟩ = some (.int .i64 aw) := by go_simp
      have q3 : w1.cell? ⟨w.heap.size, 3, none⟩ = some (.int .i64 ah) := by go_simp
      have q4 : w1.cell? ⟨w.heap.size + 1, 0, none⟩ = some (.int .i64 bx) := by go_simp
      have q5 : w1.cell? ⟨w.heap.size + 1, 1, none⟩ = some (.int .i64 by') := by go_simp
      have q6 : w1.cell? ⟨w.heap.size + 1, 2, none⟩ = some (.int .i64 bw) := by go_simp
      have q7 : w1.cell? ⟨w.heap.size + 1, 3, none⟩ = some (.int .i64 bh) := by go_simp
      go_quiet (fail)
      go_wp2_with fail
      go_quiet (fail)
      clear s1 s2 s3 s4 m1 m2 m3 m4
      by_cases k1 : mX ax bx < mN (ax + aw) (bx + bw)
      · by_cases k2 : mX ay by' < mN (ay + ah) (by' + bh)
        · have hv : meetVal ax ay aw ah bx by' bw bh = .tuple #[(.agg #[.int .i64 (mX ax bx), .int .i64 (mX ay by'), .int .i64 (mN (ax + aw) (bx + bw) - mX ax bx), .int .i64 (mN (ay + ah) (by' + bh) - mX ay by')]), .bool true] := by
            simp [meetVal, meetV, meets, mW, ha, hb, k1, k2]
          go_wp2
          refine bodyPost_ret (v := .tuple #[(.agg #[.int .i64 (mX ax bx), .int .i64 (mX ay by'), .int .i64 (mN (ax + aw) (bx + bw) - mX ax bx), .int .i64 (mN (ay + ah) (by' + bh) - mX ay by')]), .bool true]) (by simp [results, Try.results71, go_sem, *]) rfl ⟨?_, ?_⟩
          · first | rfl | rw [hv]
          · (repeat' (first | exact Below.refl _ _ | refine Below.alloc ?_ ?_ _ | refine Below.setCell ?_ ?_ _ | refine Below.drew ?_ | refine below_drewN ?_ _ | refine Below.trans ?_ (Below.mono (by assumption) ?_))) <;> (try first | omega | (simp; done) | (simp at *; omega))
        · have hv : meetVal ax ay aw ah bx by' bw bh = .tuple #[(.agg #[.int .i64 0, .int .i64 0, .int .i64 0, .int .i64 0]), .bool false] := by
            simp [meetVal, meetV, meets, mW, ha, hb, k1, k2]
          go_wp2
          refine bodyPost_ret (v := .tuple #[(.agg #[.int .i64 0, .int .i64 0, .int .i64 0, .int .i64 0]), .bool false]) (by simp [results, Try.results71, go_sem, *]) rfl ⟨?_, ?_⟩
          · first | rfl | rw [hv]
          · (repeat' (first | exact Below.refl _ _ | refine Below.alloc ?_ ?_ _ | refine Below.setCell ?_ ?_ _ | refine Below.drew ?_ | refine below_drewN ?_ _ | refine Below.trans ?_ (Below.mono (by assumption) ?_))) <;> (try first | omega | (simp; done) | (simp at *; omega))
      · have hv : meetVal ax ay aw ah bx by' bw bh = .tuple #[(.agg #[.int .i64 0, .int .i64 0, .int .i64 0, .int .i64 0]), .bool false] := by
          simp [meetVal, meetV, meets, mW, ha, hb, k1]
        go_wp2
        refine bodyPost_ret (v := .tuple #[(.agg #[.int .i64 0, .int .i64 0, .int .i64 0, .int .i64 0]), .bool false]) (by simp [results, Try.results71, go_sem, *]) rfl ⟨?_, ?_⟩
        · first | rfl | rw [hv]
        · (repeat' (first | exact Below.refl _ _ | refine Below.alloc ?_ ?_ _ | refine Below.setCell ?_ ?_ _ | refine Below.drew ?_ | refine below_drewN ?_ _ | refine Below.trans ?_ (Below.mono (by assumption) ?_))) <;> (try first | omega | (simp; done) | (simp at *; omega))
    · have hv : meetVal ax ay aw ah bx by' bw bh = .tuple #[(.agg #[.int .i64 0, .int .i64 0, .int .i64 0, .int .i64 0]), .bool false] := by simp [meetVal, ha, hb]
      have hb' : vBox bx by' bw bh = false := by simpa using hb
      go_enter Try.func71, Try.ntmps71
      go_wp2_with (first | (go_at_call 76; refine (impl_ValidBox_c _ _ _ _ _).mono ?_; rintro e w1 ⟨rfl, hb1⟩; obtain ⟨hc1, hf1, -, hz1⟩ := bcell hb1; (try simp at hz1); (try (have zw0 : w.heap.size < w1.heap.size := by omega)); (try (have zw1 : w.heap.size + 1 < w1.heap.size := by omega)); (try (have zw2 : w.heap.size + 1 + 1 < w1.heap.size := by omega)); (try (have zw3 : w.heap.size + 1 + 1 + 1 < w1.heap.size := by omega)); (try (have zw4 : w.heap.size + 1 + 1 + 1 + 1 < w1.heap.size := by omega)); (try (have zw5 : w.heap.size + 1 + 1 + 1 + 1 + 1 < w1.heap.size := by omega))))
      refine bodyPost_ret (v := .tuple #[(.agg #[.int .i64 0, .int .i64 0, .int .i64 0, .int .i64 0]), .bool false]) (by simp [results, Try.results71, go_sem, *]) rfl ⟨?_, ?_⟩
      · first | rfl | rw [hv]
      · (repeat' (first | exact Below.refl _ _ | refine Below.alloc ?_ ?_ _ | refine Below.setCell ?_ ?_ _ | refine Below.drew ?_ | refine below_drewN ?_ _ | refine Below.trans ?_ (Below.mono (by assumption) ?_))) <;> (try first | omega | (simp; done) | (simp at *; omega))
  · have hv : meetVal ax ay aw ah bx by' bw bh = .tuple #[(.agg #[.int .i64 0, .int .i64 0, .int .i64 0, .int .i64 0]), .bool false] := by simp [meetVal, ha]
    have ha' : vBox ax ay aw ah = false := by simpa using ha
    go_enter Try.func71, Try.ntmps71
    go_wp2_with (first | (go_at_call 76; refine (impl_ValidBox_c _ _ _ _ _).mono ?_; rintro e w1 ⟨rfl, hb1⟩; obtain ⟨hc1, hf1, -, hz1⟩ := bcell hb1; (try simp at hz1); (try (have zw0 : w.heap.size < w1.heap.size := by omega)); (try (have zw1 : w.heap.size + 1 < w1.heap.size := by omega)); (try (have zw2 : w.heap.size + 1 + 1 < w1.heap.size := by omega)); (try (have zw3 : w.heap.size + 1 + 1 + 1 < w1.heap.size := by omega)); (try (have zw4 : w.heap.size + 1 + 1 + 1 + 1 < w1.heap.size := by omega)); (try (have zw5 : w.heap.size + 1 + 1 + 1 + 1 + 1 < w1.heap.size := by omega))))
    refine bodyPost_ret (v := .tuple #[(.agg #[.int .i64 0, .int .i64 0, .int .i64 0, .int .i64 0]), .bool false]) (by simp [results, Try.results71, go_sem, *]) rfl ⟨?_, ?_⟩
    · first | rfl | rw [hv]
    · (repeat' (first | exact Below.refl _ _ | refine Below.alloc ?_ ?_ _ | refine Below.setCell ?_ ?_ _ | refine Below.drew ?_ | refine below_drewN ?_ _ | refine Below.trans ?_ (Below.mono (by assumption) ?_))) <;> (try first | omega | (simp; done) | (simp at *; omega))
theorem meetVal_yes {ax ay aw ah bx by' bw bh : Int} (ha : vBox ax ay aw ah = true) (hb : vBox bx by' bw bh = true) (hm : meets ax ay aw ah bx by' bw bh = true) :
    meetVal ax ay aw ah bx by' bw bh = .tuple #[(.agg #[.int .i64 (mX ax bx), .int .i64 (mX ay by'), .int .i64 (mW ax aw bx bw), .int .i64 (mW ay ah by' bh)]), .bool true] := by simp [meetVal, meetV, ha, hb, hm]
theorem meetVal_no {ax ay aw ah bx by' bw bh : Int} (h : (vBox ax ay aw ah && vBox bx by' bw bh && meets ax ay aw ah bx by' bw bh) = false) :
    meetVal ax ay aw ah bx by' bw bh = .tuple #[(.agg #[.int .i64 0, .int .i64 0, .int .i64 0, .int .i64 0]), .bool false] := by
  cases ha : vBox ax ay aw ah <;> cases hb : vBox bx by' bw bh <;> cases hm : meets ax ay aw ah bx by' bw bh <;> simp_all [meetVal, meetV]
end Go.Proofs.Ytjanjaabcinkiaa
