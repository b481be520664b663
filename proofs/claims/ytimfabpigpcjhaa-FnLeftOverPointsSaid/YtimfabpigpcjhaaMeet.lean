/- MeetOf of spec; no statement is proved here. -/
import Derived.Test.YtimfabpigpcjhaaBox
namespace Go.Proofs.Ytimfabpigpcjhaa
open Go.ChangeShapes Go.WideShapes Go.ChangeAt Go.RowKit
set_option linter.unusedVariables false
set_option linter.unusedSimpArgs false

set_option maxHeartbeats 1000000 in
theorem spec_meetOf_c (ax ay aw ah bx by' bw bh : Int) (w : World) (ha : vBox ax ay aw ah = true) (hb : vBox bx by' bw bh = true) : Calls Try.prog 41 #[(.agg #[.int .i64 ax, .int .i64 ay, .int .i64 aw, .int .i64 ah]), (.agg #[.int .i64 bx, .int .i64 by', .int .i64 bw, .int .i64 bh])] w (Rt (meetV ax ay aw ah bx by' bw bh) w) := by
  obtain ⟨a1, a2, a3, a4, a5, a6, a7, a8⟩ := vBox_bd ha
  obtain ⟨b1, b2, b3, b4, b5, b6, b7, b8⟩ := vBox_bd hb
  clear ha hb
  have s1 : IntKind.i64.wrap (ax + aw) = ax + aw := IntWalk.i64_in _ (by omega)
  have s2 : IntKind.i64.wrap (ay + ah) = ay + ah := IntWalk.i64_in _ (by omega)
  have s3 : IntKind.i64.wrap (bx + bw) = bx + bw := IntWalk.i64_in _ (by omega)
  have s4 : IntKind.i64.wrap (by' + bh) = by' + bh := IntWalk.i64_in _ (by omega)
  have m1 : (if ax < bx then bx else ax) = mX ax bx := rfl
  have m2 : (if ay < by' then by' else ay) = mX ay by' := rfl
  have m3 : (if bx + bw < ax + aw then bx + bw else ax + aw) = mN (ax + aw) (bx + bw) := rfl
  have m4 : (if by' + bh < ay + ah then by' + bh else ay + ah) = mN (ay + ah) (by' + bh) := rfl
  have x1 : 0 ≤ mX ax bx ∧ mX ax bx ≤ 200 := by unfold mX; split <;> omega
  have x2 : 0 ≤ mX ay by' ∧ mX ay by' ≤ 200 := by unfold mX; split <;> omega
  have x3 : 0 ≤ mN (ax + aw) (bx + bw) ∧ mN (ax + aw) (bx + bw) ≤ 400 := by unfold mN; split <;> omega
  have x4 : 0 ≤ mN (ay + ah) (by' + bh) ∧ mN (ay + ah) (by' + bh) ≤ 400 := by unfold mN; split <;> omega
  obtain ⟨x1a, x1b⟩ := x1
  obtain ⟨x2a, x2b⟩ := x2
  obtain ⟨x3a, x3b⟩ := x3
  obtain ⟨x4a, x4b⟩ := x4
  clear s1 s2 s3 s4 m1 m2 m3 m4
  by_cases k1 : 0 < mN (ax + aw) (bx + bw) - mX ax bx
  · by_cases k2 : 0 < mN (ay + ah) (by' + bh) - mX ay by'
    · have HI : Hid (meetV ax ay aw ah bx by' bw bh = .tuple #[(.agg #[.int .i64 (mX ax bx), .int .i64 (mX ay by'), .int .i64 (mN (ax + aw) (bx + bw) - mX ax bx), .int .i64 (mN (ay + ah) (by' + bh) - mX ay by')]), .bool true]) := by
        show _ = _
        have : meets ax ay aw ah bx by' bw bh = true := by unfold meets mW; exact decide_eq_true ⟨k1, k2⟩
        unfold meetV; rw [this]; rfl
      have s1 : IntKind.i64.wrap (ax + aw) = ax + aw := IntWalk.i64_in _ (by omega); have s2 : IntKind.i64.wrap (ay + ah) = ay + ah := IntWalk.i64_in _ (by omega); have s3 : IntKind.i64.wrap (bx + bw) = bx + bw := IntWalk.i64_in _ (by omega); have s4 : IntKind.i64.wrap (by' + bh) = by' + bh := IntWalk.i64_in _ (by omega); have m1 : (if ax < bx then bx else ax) = mX ax bx := rfl; have m2 : (if ay < by' then by' else ay) = mX ay by' := rfl; have m3 : (if bx + bw < ax + aw then bx + bw else ax + aw) = mN (ax + aw) (bx + bw) := rfl; have m4 : (if by' + bh < ay + ah then by' + bh else ay + ah) = mN (ay + ah) (by' + bh) := rfl
      have e1 : decide (mN (ax + aw) (bx + bw) - mX ax bx ≤ 0) = false := decide_eq_false (by omega)
      have e2 : decide (mN (ay + ah) (by' + bh) - mX ay by' ≤ 0) = false := decide_eq_false (by omega)
      go_enter Try.func41, Try.ntmps41
      go_wp2
      rw [HI.out]
      refine bodyPost_ret (v := .tuple #[(.agg #[.int .i64 (mX ax bx), .int .i64 (mX ay by'), .int .i64 (mN (ax + aw) (bx + bw) - mX ax bx), .int .i64 (mN (ay + ah) (by' + bh) - mX ay by')]), .bool true]) (by simp [results, Try.results41, go_sem, *]) rfl ⟨?_, ?_⟩
      · rfl
      · (repeat' (first | exact Below.refl _ _ | refine Below.alloc ?_ ?_ _ | refine Below.setCell ?_ ?_ _ | refine Below.drew ?_ | refine below_drewN ?_ _ | refine Below.trans ?_ (Below.mono (by assumption) ?_))) <;> (try first | omega | (simp; done) | (simp at *; omega))
    · have HI : Hid (meetV ax ay aw ah bx by' bw bh = .tuple #[(.agg #[.int .i64 0, .int .i64 0, .int .i64 0, .int .i64 0]), .bool false]) := by
        show _ = _
        have : meets ax ay aw ah bx by' bw bh = false := by unfold meets mW; exact decide_eq_false (fun hh => k2 hh.2)
        unfold meetV; rw [this]
      have s1 : IntKind.i64.wrap (ax + aw) = ax + aw := IntWalk.i64_in _ (by omega); have s2 : IntKind.i64.wrap (ay + ah) = ay + ah := IntWalk.i64_in _ (by omega); have s3 : IntKind.i64.wrap (bx + bw) = bx + bw := IntWalk.i64_in _ (by omega); have s4 : IntKind.i64.wrap (by' + bh) = by' + bh := IntWalk.i64_in _ (by omega); have m1 : (if ax < bx then bx else ax) = mX ax bx := rfl; have m2 : (if ay < by' then by' else ay) = mX ay by' := rfl; have m3 : (if bx + bw < ax + aw then bx + bw else ax + aw) = mN (ax + aw) (bx + bw) := rfl; have m4 : (if by' + bh < ay + ah then by' + bh else ay + ah) = mN (ay + ah) (by' + bh) := rfl
      have e1 : decide (mN (ax + aw) (bx + bw) - mX ax bx ≤ 0) = false := decide_eq_false (by omega)
      have e2 : decide (mN (ay + ah) (by' + bh) - mX ay by' ≤ 0) = true := decide_eq_true (by omega)
      go_enter Try.func41, Try.ntmps41
      go_wp2
      rw [HI.out]
      refine bodyPost_ret (v := .tuple #[(.agg #[.int .i64 0, .int .i64 0, .int .i64 0, .int .i64 0]), .bool false]) (by simp [results, Try.results41, go_sem, *]) rfl ⟨?_, ?_⟩
      · rfl
      · (repeat' (first | exact Below.refl _ _ | refine Below.alloc ?_ ?_ _ | refine Below.setCell ?_ ?_ _ | refine Below.drew ?_ | refine below_drewN ?_ _ | refine Below.trans ?_ (Below.mono (by assumption) ?_))) <;> (try first | omega | (simp; done) | (simp at *; omega))
  · have HI : Hid (meetV ax ay aw ah bx by' bw bh = .tuple #[(.agg #[.int .i64 0, .int .i64 0, .int .i64 0, .int .i64 0]), .bool false]) := by
      show _ = _
      have : meets ax ay aw ah bx by' bw bh = false := by unfold meets mW; exact decide_eq_false (fun hh => k1 hh.1)
      unfold meetV; rw [this]
    have s1 : IntKind.i64.wrap (ax + aw) = ax + aw := IntWalk.i64_in _ (by omega); have s2 : IntKind.i64.wrap (ay + ah) = ay + ah := IntWalk.i64_in _ (by omega); have s3 : IntKind.i64.wrap (bx + bw) = bx + bw := IntWalk.i64_in _ (by omega); have s4 : IntKind.i64.wrap (by' + bh) = by' + bh := IntWalk.i64_in _ (by omega); have m1 : (if ax < bx then bx else ax) = mX ax bx := rfl; have m2 : (if ay < by' then by' else ay) = mX ay by' := rfl; have m3 : (if bx + bw < ax + aw then bx + bw else ax + aw) = mN (ax + aw) (bx + bw) := rfl; have m4 : (if by' + bh < ay + ah then by' + bh else ay + ah) = mN (ay + ah) (by' + bh) := rfl
    have e1 : decide (mN (ax + aw) (bx + bw) - mX ax bx ≤ 0) = true := decide_eq_true (by omega)
    go_enter Try.func41, Try.ntmps41
    go_wp2
    rw [HI.out]
    refine bodyPost_ret (v := .tuple #[(.agg #[.int .i64 0, .int .i64 0, .int .i64 0, .int .i64 0]), .bool false]) (by simp [results, Try.results41, go_sem, *]) rfl ⟨?_, ?_⟩
    · rfl
    · (repeat' (first | exact Below.refl _ _ | refine Below.alloc ?_ ?_ _ | refine Below.setCell ?_ ?_ _ | refine Below.drew ?_ | refine below_drewN ?_ _ | refine Below.trans ?_ (Below.mono (by assumption) ?_))) <;> (try first | omega | (simp; done) | (simp at *; omega))
set_option maxHeartbeats 1000000 in
theorem spec_MeetOf_c (ax ay aw ah bx by' bw bh : Int) (w : World) : Calls Try.prog 10 #[(.agg #[.int .i64 ax, .int .i64 ay, .int .i64 aw, .int .i64 ah]), (.agg #[.int .i64 bx, .int .i64 by', .int .i64 bw, .int .i64 bh])] w (Rt (meetVal ax ay aw ah bx by' bw bh) w) := by
  cases ha : vBox ax ay aw ah
  · have HI : Hid (meetVal ax ay aw ah bx by' bw bh = .tuple #[(.agg #[.int .i64 0, .int .i64 0, .int .i64 0, .int .i64 0]), .bool false]) := meetVal_no (by rw [ha]; rfl)
    go_enter Try.func10, Try.ntmps10
    go_wp2_with (first | (go_at_call 40; refine (spec_validBox_c _ _ _ _ _).mono ?_; rintro e w1 ⟨rfl, hb1⟩; obtain ⟨hc1, hf1, -, hz1⟩ := bcell hb1; (try simp at hz1); (try (have zw0 : w.heap.size < w1.heap.size := by omega)); (try (have zw1 : w.heap.size + 1 < w1.heap.size := by omega)); (try (have zw2 : w.heap.size + 1 + 1 < w1.heap.size := by omega)); (try (have zw3 : w.heap.size + 1 + 1 + 1 < w1.heap.size := by omega)); (try (have zw4 : w.heap.size + 1 + 1 + 1 + 1 < w1.heap.size := by omega)); (try (have zw5 : w.heap.size + 1 + 1 + 1 + 1 + 1 < w1.heap.size := by omega))))
    rw [HI.out]
    refine bodyPost_ret (v := .tuple #[(.agg #[.int .i64 0, .int .i64 0, .int .i64 0, .int .i64 0]), .bool false]) (by simp [results, Try.results10, go_sem, *]) rfl ⟨?_, ?_⟩
    · rfl
    · (repeat' (first | exact Below.refl _ _ | refine Below.alloc ?_ ?_ _ | refine Below.setCell ?_ ?_ _ | refine Below.drew ?_ | refine below_drewN ?_ _ | refine Below.trans ?_ (Below.mono (by assumption) ?_))) <;> (try first | omega | (simp; done) | (simp at *; omega))
  · cases hb : vBox bx by' bw bh
    · have HI : Hid (meetVal ax ay aw ah bx by' bw bh = .tuple #[(.agg #[.int .i64 0, .int .i64 0, .int .i64 0, .int .i64 0]), .bool false]) := meetVal_no (by rw [ha, hb]; rfl)
      go_enter Try.func10, Try.ntmps10
      go_wp2_with (first | (go_at_call 40; refine (spec_validBox_c _ _ _ _ _).mono ?_; rintro e w1 ⟨rfl, hb1⟩; obtain ⟨hc1, hf1, -, hz1⟩ := bcell hb1; (try simp at hz1); (try (have zw0 : w.heap.size < w1.heap.size := by omega)); (try (have zw1 : w.heap.size + 1 < w1.heap.size := by omega)); (try (have zw2 : w.heap.size + 1 + 1 < w1.heap.size := by omega)); (try (have zw3 : w.heap.size + 1 + 1 + 1 < w1.heap.size := by omega)); (try (have zw4 : w.heap.size + 1 + 1 + 1 + 1 < w1.heap.size := by omega)); (try (have zw5 : w.heap.size + 1 + 1 + 1 + 1 + 1 < w1.heap.size := by omega))))
      rw [HI.out]
      refine bodyPost_ret (v := .tuple #[(.agg #[.int .i64 0, .int .i64 0, .int .i64 0, .int .i64 0]), .bool false]) (by simp [results, Try.results10, go_sem, *]) rfl ⟨?_, ?_⟩
      · rfl
      · (repeat' (first | exact Below.refl _ _ | refine Below.alloc ?_ ?_ _ | refine Below.setCell ?_ ?_ _ | refine Below.drew ?_ | refine below_drewN ?_ _ | refine Below.trans ?_ (Below.mono (by assumption) ?_))) <;> (try first | omega | (simp; done) | (simp at *; omega))
    · cases hm : meets ax ay aw ah bx by' bw bh
      · have HI : Hid (meetVal ax ay aw ah bx by' bw bh = .tuple #[(.agg #[.int .i64 0, .int .i64 0, .int .i64 0, .int .i64 0]), .bool false]) := meetVal_no (by rw [ha, hb, hm]; rfl)
        have HC := fun W => spec_meetOf_c ax ay aw ah bx by' bw bh W ha hb
        simp only [meetV, hm] at HC
        go_enter Try.func10, Try.ntmps10
        go_wp2_with (first | (go_at_call 40; refine (spec_validBox_c _ _ _ _ _).mono ?_; rintro e w1 ⟨rfl, hb1⟩; obtain ⟨hc1, hf1, -, hz1⟩ := bcell hb1; (try simp at hz1); (try (have zw0 : w.heap.size < w1.heap.size := by omega)); (try (have zw1 : w.heap.size + 1 < w1.heap.size := by omega)); (try (have zw2 : w.heap.size + 1 + 1 < w1.heap.size := by omega)); (try (have zw3 : w.heap.size + 1 + 1 + 1 < w1.heap.size := by omega)); (try (have zw4 : w.heap.size + 1 + 1 + 1 + 1 < w1.heap.size := by omega)); (try (have zw5 : w.heap.size + 1 + 1 + 1 + 1 + 1 < w1.heap.size := by omega))) | (go_at_call 41; refine (HC _).mono ?_; rintro e w1 ⟨rfl, hb1⟩; obtain ⟨hc1, hf1, -, hz1⟩ := bcell hb1; (try simp at hz1); (try (have zw0 : w.heap.size < w1.heap.size := by omega)); (try (have zw1 : w.heap.size + 1 < w1.heap.size := by omega)); (try (have zw2 : w.heap.size + 1 + 1 < w1.heap.size := by omega)); (try (have zw3 : w.heap.size + 1 + 1 + 1 < w1.heap.size := by omega)); (try (have zw4 : w.heap.size + 1 + 1 + 1 + 1 < w1.heap.size := by omega)); (try (have zw5 : w.heap.size + 1 + 1 + 1 + 1 + 1 < w1.heap.size := by omega))))
        rw [HI.out]
        refine bodyPost_ret (v := .tuple #[(.agg #[.int .i64 0, .int .i64 0, .int .i64 0, .int .i64 0]), .bool false]) (by simp [results, Try.results10, go_sem, *]) rfl ⟨?_, ?_⟩
        · rfl
        · (repeat' (first | exact Below.refl _ _ | refine Below.alloc ?_ ?_ _ | refine Below.setCell ?_ ?_ _ | refine Below.drew ?_ | refine below_drewN ?_ _ | refine Below.trans ?_ (Below.mono (by assumption) ?_))) <;> (try first | omega | (simp; done) | (simp at *; omega))
      · have HI : Hid (meetVal ax ay aw ah bx by' bw bh = .tuple #[(.agg #[.int .i64 (mX ax bx), .int .i64 (mX ay by'), .int .i64 (mW ax aw bx bw), .int .i64 (mW ay ah by' bh)]), .bool true]) := meetVal_yes ha hb hm
        have HC := fun W => spec_meetOf_c ax ay aw ah bx by' bw bh W ha hb
        simp only [meetV, hm] at HC
        go_enter Try.func10, Try.ntmps10
        go_wp2_with (first | (go_at_call 40; refine (spec_validBox_c _ _ _ _ _).mono ?_; rintro e w1 ⟨rfl, hb1⟩; obtain ⟨hc1, hf1, -, hz1⟩ := bcell hb1; (try simp at hz1); (try (have zw0 : w.heap.size < w1.heap.size := by omega)); (try (have zw1 : w.heap.size + 1 < w1.heap.size := by omega)); (try (have zw2 : w.heap.size + 1 + 1 < w1.heap.size := by omega)); (try (have zw3 : w.heap.size + 1 + 1 + 1 < w1.heap.size := by omega)); (try (have zw4 : w.heap.size + 1 + 1 + 1 + 1 < w1.heap.size := by omega)); (try (have zw5 : w.heap.size + 1 + 1 + 1 + 1 + 1 < w1.heap.size := by omega))) | (go_at_call 41; refine (HC _).mono ?_; rintro e w1 ⟨rfl, hb1⟩; obtain ⟨hc1, hf1, -, hz1⟩ := bcell hb1; (try simp at hz1); (try (have zw0 : w.heap.size < w1.heap.size := by omega)); (try (have zw1 : w.heap.size + 1 < w1.heap.size := by omega)); (try (have zw2 : w.heap.size + 1 + 1 < w1.heap.size := by omega)); (try (have zw3 : w.heap.size + 1 + 1 + 1 < w1.heap.size := by omega)); (try (have zw4 : w.heap.size + 1 + 1 + 1 + 1 < w1.heap.size := by omega)); (try (have zw5 : w.heap.size + 1 + 1 + 1 + 1 + 1 < w1.heap.size := by omega))))
        rw [HI.out]
        refine bodyPost_ret (v := .tuple #[(.agg #[.int .i64 (mX ax bx), .int .i64 (mX ay by'), .int .i64 (mW ax aw bx bw), .int .i64 (mW ay ah by' bh)]), .bool true]) (by simp [results, Try.results10, go_sem, *]) rfl ⟨?_, ?_⟩
        · rfl
        · (repeat' (first | exact Below.refl _ _ | refine Below.alloc ?_ ?_ _ | refine Below.setCell ?_ ?_ _ | refine Below.drew ?_ | refine below_drewN ?_ _ | refine Below.trans ?_ (Below.mono (by assumption) ?_))) <;> (try first | omega | (simp; done) | (simp at *; omega))
end Go.Proofs.Ytimfabpigpcjhaa
