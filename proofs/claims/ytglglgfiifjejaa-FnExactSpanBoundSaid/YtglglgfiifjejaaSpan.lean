/- SpanBound (spec and impl), and the law's walk; no statement is proved here. -/
import Derived.Test.YtglglgfiifjejaaJobs4
namespace Go.Proofs.Ytglglgfiifjejaa
open Go.ChangeShapes Go.WideShapes Go.ChangeAt Go.RowKit
set_option linter.unusedVariables false
set_option linter.unusedSimpArgs false

def mnG (zs : List Int) : Nat → Int
  | 0 => 500
  | k + 1 => if el zs k < mnG zs k then el zs k else mnG zs k
/-- the least of the first k numbers, 500 at most -/
@[irreducible] def mnF (zs : List Int) (k : Nat) : Int := mnG zs k
theorem mnF_zero (zs : List Int) : mnF zs 0 = 500 := by unfold mnF; rfl
theorem mnF_succ (zs : List Int) (k : Nat) : mnF zs (k + 1) = if el zs k < mnF zs k then el zs k else mnF zs k := by unfold mnF; rfl
@[irreducible] def smF (zs : List Int) (k : Nat) : Int := sumTo (el zs) k
theorem smF_zero (zs : List Int) : smF zs 0 = 0 := by unfold smF; rfl
theorem smF_succ (zs : List Int) (k : Nat) : smF zs (k + 1) = smF zs k + el zs k := by unfold smF; rfl
theorem smF_bd {zs : List Int} {n : Nat} (h : okTm zs n) (k : Nat) (hk : k ≤ n) : 0 ≤ smF zs k ∧ smF zs k ≤ k * 500 := by
  unfold smF; exact sumTo_bd (fun i hi => h i (by omega))
theorem mnF_bd {zs : List Int} {n : Nat} (h : okTm zs n) (k : Nat) (hk : k ≤ n) : 0 ≤ mnF zs k ∧ mnF zs k ≤ 500 := by
  induction k with
  | zero => rw [mnF_zero]; omega
  | succ k ih =>
    have a := ih (by omega)
    have b := h k (by omega)
    rw [mnF_succ]; split <;> omega
def mx2 (p q : Int) : Int := if p < q then q else p
@[irreducible] def spanI (cs hs : List Int) (n : Nat) : Int := if vJobs cs hs n = true then (if n = 0 then 0 else mx2 (smF cs n + mnF hs n) (smF hs n + mnF cs n)) else -1
theorem span_no {cs hs : List Int} {n : Nat} (h : vJobs cs hs n = false) : spanI cs hs n = -1 := by unfold spanI; rw [h]; rfl
theorem span_zero {cs hs : List Int} (h : vJobs cs hs 0 = true) : spanI cs hs 0 = 0 := by unfold spanI; rw [h]; rfl
theorem span_yes {cs hs : List Int} {n : Nat} (h : vJobs cs hs n = true) (h0 : 0 < n) : spanI cs hs n = if smF cs n + mnF hs n < smF hs n + mnF cs n then smF hs n + mnF cs n else smF cs n + mnF hs n := by
  unfold spanI mx2; rw [h, if_pos rfl, if_neg (by omega)]
set_option maxHeartbeats 1000000 in
theorem spec_SpanBound_s {b off n cap : Nat} {cs hs : List Int} {w : World} (h : JSl w b off n cap cs hs) :
    Calls Try.prog 49 #[.slice (some ⟨b, off, none⟩) n cap] w (Rs (.int .i64 (spanI cs hs n)) w) := by
  have hsm := h.small
  have C1 := spec_validJobs_s h
  cases hv : vJobs cs hs n
  · have hi : Hid (spanI cs hs n = -1) := span_no hv
    rw [hv] at C1
    clear hv
    go_enter Try.func49, Try.ntmps49
    go_wp2_with (go_at_call 68; refine C1.mono ?_; rintro e w1 ⟨rfl, rfl⟩)
    go_ret
    exact ⟨ret_int hi.out.symm, rfl⟩
  · rw [hv] at C1
    obtain ⟨n16, t1, t2⟩ := vJobs_iff.1 hv
    have T1 := mkhid t1
    have T2 := mkhid t2
    have HV := mkhid hv
    clear hv t1 t2
    go_enter Try.func49, Try.ntmps49
    go_wp2_with (go_at_call 68; refine C1.mono ?_; rintro e w1 ⟨rfl, rfl⟩)
    go_loop [3, 4, 5] (fun c t i => ∃ k : Nat, k ≤ n ∧ i = .int .i64 k ∧ c = .int .i64 (smF cs k) ∧ t = .int .i64 (smF hs k)) (fun _ _ i => n - (intOf i).toNat)
    case atStart => exact ⟨0, Nat.zero_le _, rfl, by rw [smF_zero], by rw [smF_zero]⟩
    case round =>
      obtain ⟨k, hk, rfl, rfl, rfl⟩ := hrel
      have a1 := smF_bd T1.out k hk
      have a2 := smF_bd T2.out k hk
      obtain ⟨a1a, a1b⟩ := a1
      obtain ⟨a2a, a2b⟩ := a2
      by_cases hlt : k < n
      · have c1 := h.cell1 k hlt
        have c2 := h.cell2 k hlt
        have b1 := T1.out k hlt
        have b2 := T2.out k hlt
        obtain ⟨b1a, b1b⟩ := b1
        obtain ⟨b2a, b2b⟩ := b2
        have s1 := mkhid (smF_succ cs k)
        have s2 := mkhid (smF_succ hs k)
        go_wp2
        go_round
        case rel => exact ⟨k + 1, by omega, by go_num, by rw [s1.out], by rw [s2.out]⟩
        case measure => simp [intOf]; omega
      · have hkn := mkhid (show k = n by omega)
        rw [hkn.out] at a1a a1b a2a a2b ⊢
        go_wp2_with fail
        go_loop [6, 7, 8] (fun c t i => ∃ j : Nat, j ≤ n ∧ i = .int .i64 j ∧ c = .int .i64 (mnF cs j) ∧ t = .int .i64 (mnF hs j)) (fun _ _ i => n - (intOf i).toNat)
        case atStart => exact ⟨0, Nat.zero_le _, rfl, by rw [mnF_zero], by rw [mnF_zero]⟩
        case round =>
          obtain ⟨j, hj, rfl, rfl, rfl⟩ := hrel
          by_cases hjn : j < n
          · have c1 := h.cell1 j hjn
            have c2 := h.cell2 j hjn
            have s1 := mkhid (mnF_succ cs j)
            have s2 := mkhid (mnF_succ hs j)
            go_wp2
            go_round
            case rel => exact ⟨j + 1, by omega, by go_num, by rw [s1.out], by rw [s2.out]⟩
            case measure => simp [intOf]; omega
          · have hjn2 := mkhid (show j = n by omega)
            have d1 := mnF_bd T1.out n (Nat.le_refl _)
            have d2 := mnF_bd T2.out n (Nat.le_refl _)
            rw [hjn2.out]
            obtain ⟨d1a, d1b⟩ := d1
            obtain ⟨d2a, d2b⟩ := d2
            by_cases h0 : 0 < n
            · have e0 : ((n : Int) == 0) = false := by simp; omega
              by_cases hm : smF cs n + mnF hs n < smF hs n + mnF cs n
              · have hi : Hid (spanI cs hs n = smF hs n + mnF cs n) := by show _ = _; rw [span_yes HV.out h0, if_pos hm]
                go_wp2
                go_ret
                exact ⟨ret_int (by rw [hi.out]), rfl⟩
              · have hi : Hid (spanI cs hs n = smF cs n + mnF hs n) := by show _ = _; rw [span_yes HV.out h0, if_neg hm]
                go_wp2
                go_ret
                exact ⟨ret_int (by rw [hi.out]), rfl⟩
            · have e0 : ((n : Int) == 0) = true := by simp; omega
              have hi : Hid (spanI cs hs n = 0) := by
                have e : n = 0 := by omega
                have hv := HV.out
                rw [e] at hv
                show _ = _; rw [e]; exact span_zero hv
              go_wp2
              go_ret
              exact ⟨ret_int hi.out.symm, rfl⟩
set_option maxHeartbeats 1000000 in
theorem impl_SpanBound_s {b off n cap : Nat} {cs hs : List Int} {w : World} (h : JSl w b off n cap cs hs) :
    Calls Try.prog 50 #[.slice (some ⟨b, off, none⟩) n cap] w (Rt (.int .i64 (spanI cs hs n)) w) := by
  have hsm := h.small
  have C1 := impl_ValidJobs_s h
  cases hv : vJobs cs hs n
  · have hi : Hid (spanI cs hs n = -1) := span_no hv
    rw [hv] at C1
    clear hv
    go_enter Try.func50, Try.ntmps50
    go_wp2_with fail
    go_at_call 29
    refine (C1).mono ?_
    rintro e w1 ⟨rfl, hb1⟩
    obtain ⟨hc1, hf1, -, hz1⟩ := bcell hb1
    (try simp at hz1)
    (try (have y1 : w.heap.size ≤ w1.heap.size := by omega))
    (try (have z1_0_0 : w.heap.size < w1.heap.size := by omega))
    (try (have z1_0_1 : w.heap.size + 1 < w1.heap.size := by omega))
    (try (have z1_0_2 : w.heap.size + 1 + 1 < w1.heap.size := by omega))
    (try (have z1_0_3 : w.heap.size + 1 + 1 + 1 < w1.heap.size := by omega))
    go_wp2_with fail
    go_ret
    exact ⟨ret_int hi.out.symm, (by repeat' (first | with_reducible exact Below.refl _ _ | with_reducible refine Below.alloc ?_ (by first | omega | (simp; done) | (simp; omega)) _ | with_reducible refine Below.drew ?_ | with_reducible refine below_drewN ?_ _ | with_reducible refine Below.setCell ?_ (by first | omega | (simp; done) | (simp; omega)) _ | with_reducible refine Below.grown ?_ (by assumption) (by first | omega | (simp; done) | (simp; omega)) (by intro k hk; cases hk; omega) | with_reducible refine Below.trans ?_ (Below.mono (by assumption) (by first | omega | (simp; done) | (simp; omega)))))⟩
  · rw [hv] at C1
    obtain ⟨n16, t1, t2⟩ := vJobs_iff.1 hv
    have T1 := mkhid t1
    have T2 := mkhid t2
    have HV := mkhid hv
    clear hv t1 t2
    by_cases h0 : 0 < n
    · have e0 : ((n : Int) == 0) = false := by simp; omega
      go_enter Try.func50, Try.ntmps50
      go_wp2_with fail
      go_at_call 29
      refine (C1).mono ?_
      rintro e w1 ⟨rfl, hb1⟩
      obtain ⟨hc1, hf1, -, hz1⟩ := bcell hb1
      (try simp at hz1)
      (try (have y1 : w.heap.size ≤ w1.heap.size := by omega))
      (try (have z1_0_0 : w.heap.size < w1.heap.size := by omega))
      (try (have z1_0_1 : w.heap.size + 1 < w1.heap.size := by omega))
      (try (have z1_0_2 : w.heap.size + 1 + 1 < w1.heap.size := by omega))
      (try (have z1_0_3 : w.heap.size + 1 + 1 + 1 < w1.heap.size := by omega))
      go_wp2_with fail
      have hB1 : Below w.heap.size w w1 := hb1
      go_loopw [3, 4, 5, 6, 17] (fun c t mc mh i wr => ∃ k : Nat, k ≤ n ∧ i = .int .i64 k ∧ c = .int .i64 (smF cs k) ∧ t = .int .i64 (smF hs k) ∧ mc = .int .i64 (mnF cs k) ∧ mh = .int .i64 (mnF hs k) ∧ Below w.heap.size w wr) (fun _ _ _ _ i _ => n - (intOf i).toNat)
      case atStart => exact ⟨0, Nat.zero_le _, rfl, by rw [smF_zero], by rw [smF_zero], by rw [mnF_zero], by rw [mnF_zero], hB1⟩
      case round =>
        obtain ⟨k, hk, rfl, rfl, rfl, rfl, rfl, hbr⟩ := hrel
        clear hc1 hf1 hb1 hB1
        have hsz := hbr.size
        obtain ⟨a1a, a1b⟩ := smF_bd T1.out k hk
        obtain ⟨a2a, a2b⟩ := smF_bd T2.out k hk
        by_cases hlt : k < n
        · have i1 : (0 : Int) ≤ (k : Int) := by omega
          have i2 : (k : Int) < (n : Int) := by omega
          have c1 := (h.below hbr).cell1 k hlt
          have c2 := (h.below hbr).cell2 k hlt
          have hlb := (h.below hbr).lt
          obtain ⟨b1a, b1b⟩ := T1.out k hlt
          obtain ⟨b2a, b2b⟩ := T2.out k hlt
          have s1 := mkhid (smF_succ cs k)
          have s2 := mkhid (smF_succ hs k)
          have m1 := mkhid (mnF_succ cs k)
          have m2 := mkhid (mnF_succ hs k)
          go_wp2
          go_roundw
          case rel => exact ⟨k + 1, by omega, by go_num, by rw [s1.out], by rw [s2.out], by rw [m1.out], by rw [m2.out], (by repeat' (first | with_reducible exact Below.refl _ _ | with_reducible refine Below.alloc ?_ (by first | omega | (simp; done) | (simp; omega)) _ | with_reducible refine Below.drew ?_ | with_reducible refine below_drewN ?_ _ | with_reducible refine Below.setCell ?_ (by first | omega | (simp; done) | (simp; omega)) _ | with_reducible refine Below.grown ?_ (by assumption) (by first | omega | (simp; done) | (simp; omega)) (by intro k hk; cases hk; omega) | with_reducible refine Below.trans ?_ (Below.mono (by assumption) (by first | omega | (simp; done) | (simp; omega)))))⟩
          case measure => simp [intOf]; omega
        · have hkn := mkhid (show k = n by omega)
          rw [hkn.out] at a1a a1b a2a a2b ⊢
          obtain ⟨d1a, d1b⟩ := mnF_bd T1.out n (Nat.le_refl _)
          obtain ⟨d2a, d2b⟩ := mnF_bd T2.out n (Nat.le_refl _)
          by_cases hm : smF cs n + mnF hs n < smF hs n + mnF cs n
          · have hi : Hid (spanI cs hs n = smF hs n + mnF cs n) := by show _ = _; rw [span_yes HV.out h0, if_pos hm]
            go_wp2
            go_ret
            exact ⟨ret_int (by rw [hi.out]), hbr⟩
          · have hi : Hid (spanI cs hs n = smF cs n + mnF hs n) := by show _ = _; rw [span_yes HV.out h0, if_neg hm]
            go_wp2
            go_ret
            exact ⟨ret_int (by rw [hi.out]), hbr⟩
    · have e0 : ((n : Int) == 0) = true := by simp; omega
      have hi : Hid (spanI cs hs n = 0) := by
        have e : n = 0 := by omega
        have hv := HV.out
        rw [e] at hv
        show _ = _; rw [e]; exact span_zero hv
      go_enter Try.func50, Try.ntmps50
      go_wp2_with fail
      go_at_call 29
      refine (C1).mono ?_
      rintro e w1 ⟨rfl, hb1⟩
      obtain ⟨hc1, hf1, -, hz1⟩ := bcell hb1
      (try simp at hz1)
      (try (have y1 : w.heap.size ≤ w1.heap.size := by omega))
      (try (have z1_0_0 : w.heap.size < w1.heap.size := by omega))
      (try (have z1_0_1 : w.heap.size + 1 < w1.heap.size := by omega))
      (try (have z1_0_2 : w.heap.size + 1 + 1 < w1.heap.size := by omega))
      (try (have z1_0_3 : w.heap.size + 1 + 1 + 1 < w1.heap.size := by omega))
      go_wp2_with fail
      go_ret
      exact ⟨ret_int hi.out.symm, (by repeat' (first | with_reducible exact Below.refl _ _ | with_reducible refine Below.alloc ?_ (by first | omega | (simp; done) | (simp; omega)) _ | with_reducible refine Below.drew ?_ | with_reducible refine below_drewN ?_ _ | with_reducible refine Below.setCell ?_ (by first | omega | (simp; done) | (simp; omega)) _ | with_reducible refine Below.grown ?_ (by assumption) (by first | omega | (simp; done) | (simp; omega)) (by intro k hk; cases hk; omega) | with_reducible refine Below.trans ?_ (Below.mono (by assumption) (by first | omega | (simp; done) | (simp; omega)))))⟩
set_option maxHeartbeats 1600000 in
theorem FnExactSpanBound_walk (v : Value) (n : Nat) (cs hs : List Int) (w : World) (hn : n ≤ maxLen) (hr : JRaw w v n cs hs) : Calls Try.prog 14 #[v] w (Rt (.bool true) w) := by
  have hr' := hr
  obtain ⟨pp, cap, rfl, _⟩ := hr'
  by_cases hl : n ≤ 1048576
  · have hj := hr.isl hl
    have CS := fun W => rs_rt (szJobS_c pp n cap 1048576 W hn (by omega))
    rw [if_pos (by omega)] at CS
    have d1 : decide ((1048576 : Int) - (n : Int) < 0) = false := decide_eq_false (by omega)
    go_enter Try.func14, Try.ntmps14
    go_wp2_with fail
    go_at_call 26
    refine (CS _).mono ?_
    rintro e w1 ⟨rfl, hb1⟩
    obtain ⟨hc1, hf1, -, hz1⟩ := bcell hb1
    (try simp at hz1)
    (try (have y1 : w.heap.size ≤ w1.heap.size := by omega))
    (try (have z1_0_0 : w.heap.size < w1.heap.size := by omega))
    (try (have z1_0_1 : w.heap.size + 1 < w1.heap.size := by omega))
    (try (have z1_0_2 : w.heap.size + 1 + 1 < w1.heap.size := by omega))
    (try (have z1_0_3 : w.heap.size + 1 + 1 + 1 < w1.heap.size := by omega))
    go_wp2_with fail
    go_at_call 28
    refine (toJobS_c _ n cs hs _ (hj.below hb1) hl).mono ?_
    rintro e w2 ⟨g2, rfl, j2, hb2⟩
    obtain ⟨hc2, hf2, -, hz2⟩ := bcell hb2
    (try simp at hz2)
    (try (have y2 : w.heap.size ≤ w2.heap.size := by omega))
    (try (have z2_0_0 : w.heap.size < w2.heap.size := by omega))
    (try (have z2_0_1 : w.heap.size + 1 < w2.heap.size := by omega))
    (try (have z2_0_2 : w.heap.size + 1 + 1 < w2.heap.size := by omega))
    (try (have z2_0_3 : w.heap.size + 1 + 1 + 1 < w2.heap.size := by omega))
    (try (have z2_1_0 : w1.heap.size < w2.heap.size := by omega))
    (try (have z2_1_1 : w1.heap.size + 1 < w2.heap.size := by omega))
    go_wp2_with fail
    go_at_call 49
    refine (rs_rt (spec_SpanBound_s j2)).mono ?_
    rintro e w3 ⟨rfl, hb3⟩
    obtain ⟨hc3, hf3, -, hz3⟩ := bcell hb3
    (try simp at hz3)
    (try (have y3 : w.heap.size ≤ w3.heap.size := by omega))
    (try (have z3_0_0 : w.heap.size < w3.heap.size := by omega))
    (try (have z3_0_1 : w.heap.size + 1 < w3.heap.size := by omega))
    (try (have z3_0_2 : w.heap.size + 1 + 1 < w3.heap.size := by omega))
    (try (have z3_0_3 : w.heap.size + 1 + 1 + 1 < w3.heap.size := by omega))
    (try (have z3_1_0 : w1.heap.size < w3.heap.size := by omega))
    (try (have z3_1_1 : w1.heap.size + 1 < w3.heap.size := by omega))
    (try (have z3_2_0 : w2.heap.size < w3.heap.size := by omega))
    (try (have z3_2_1 : w2.heap.size + 1 < w3.heap.size := by omega))
    go_wp2_with fail
    have hj3 := ((hj.below hb1).below hb2).below hb3
    go_at_call 28
    refine (toJobS_c _ n cs hs _ hj3 hl).mono ?_
    rintro e w4 ⟨g4, rfl, j4, hb4⟩
    obtain ⟨hc4, hf4, -, hz4⟩ := bcell hb4
    (try simp at hz4)
    (try (have y4 : w.heap.size ≤ w4.heap.size := by omega))
    (try (have z4_0_0 : w.heap.size < w4.heap.size := by omega))
    (try (have z4_0_1 : w.heap.size + 1 < w4.heap.size := by omega))
    (try (have z4_0_2 : w.heap.size + 1 + 1 < w4.heap.size := by omega))
    (try (have z4_0_3 : w.heap.size + 1 + 1 + 1 < w4.heap.size := by omega))
    (try (have z4_1_0 : w1.heap.size < w4.heap.size := by omega))
    (try (have z4_1_1 : w1.heap.size + 1 < w4.heap.size := by omega))
    (try (have z4_2_0 : w2.heap.size < w4.heap.size := by omega))
    (try (have z4_2_1 : w2.heap.size + 1 < w4.heap.size := by omega))
    (try (have z4_3_0 : w3.heap.size < w4.heap.size := by omega))
    (try (have z4_3_1 : w3.heap.size + 1 < w4.heap.size := by omega))
    go_wp2_with fail
    go_at_call 50
    refine (impl_SpanBound_s j4).mono ?_
    rintro e w5 ⟨rfl, hb5⟩
    obtain ⟨hc5, hf5, -, hz5⟩ := bcell hb5
    (try simp at hz5)
    (try (have y5 : w.heap.size ≤ w5.heap.size := by omega))
    (try (have z5_0_0 : w.heap.size < w5.heap.size := by omega))
    (try (have z5_0_1 : w.heap.size + 1 < w5.heap.size := by omega))
    (try (have z5_0_2 : w.heap.size + 1 + 1 < w5.heap.size := by omega))
    (try (have z5_0_3 : w.heap.size + 1 + 1 + 1 < w5.heap.size := by omega))
    (try (have z5_1_0 : w1.heap.size < w5.heap.size := by omega))
    (try (have z5_1_1 : w1.heap.size + 1 < w5.heap.size := by omega))
    (try (have z5_2_0 : w2.heap.size < w5.heap.size := by omega))
    (try (have z5_2_1 : w2.heap.size + 1 < w5.heap.size := by omega))
    (try (have z5_3_0 : w3.heap.size < w5.heap.size := by omega))
    (try (have z5_3_1 : w3.heap.size + 1 < w5.heap.size := by omega))
    (try (have z5_4_0 : w4.heap.size < w5.heap.size := by omega))
    (try (have z5_4_1 : w4.heap.size + 1 < w5.heap.size := by omega))
    go_wp2_with fail
    have j5 := j4.below hb5
    go_at_call 28
    refine (toJobS_c _ n cs hs _ ((hj3.below hb4).below hb5) hl).mono ?_
    rintro e w6 ⟨g6, rfl, j6, hb6⟩
    obtain ⟨hc6, hf6, -, hz6⟩ := bcell hb6
    (try simp at hz6)
    (try (have y6 : w.heap.size ≤ w6.heap.size := by omega))
    (try (have z6_0_0 : w.heap.size < w6.heap.size := by omega))
    (try (have z6_0_1 : w.heap.size + 1 < w6.heap.size := by omega))
    (try (have z6_0_2 : w.heap.size + 1 + 1 < w6.heap.size := by omega))
    (try (have z6_0_3 : w.heap.size + 1 + 1 + 1 < w6.heap.size := by omega))
    (try (have z6_1_0 : w1.heap.size < w6.heap.size := by omega))
    (try (have z6_1_1 : w1.heap.size + 1 < w6.heap.size := by omega))
    (try (have z6_2_0 : w2.heap.size < w6.heap.size := by omega))
    (try (have z6_2_1 : w2.heap.size + 1 < w6.heap.size := by omega))
    (try (have z6_3_0 : w3.heap.size < w6.heap.size := by omega))
    (try (have z6_3_1 : w3.heap.size + 1 < w6.heap.size := by omega))
    (try (have z6_4_0 : w4.heap.size < w6.heap.size := by omega))
    (try (have z6_4_1 : w4.heap.size + 1 < w6.heap.size := by omega))
    (try (have z6_5_0 : w5.heap.size < w6.heap.size := by omega))
    (try (have z6_5_1 : w5.heap.size + 1 < w6.heap.size := by omega))
    go_wp2_with fail
    go_at_call 30
    refine (eqJobS_same (j5.below hb6) j6).mono ?_
    rintro e w7 ⟨rfl, hb7⟩
    obtain ⟨hc7, hf7, -, hz7⟩ := bcell hb7
    (try simp at hz7)
    (try (have y7 : w.heap.size ≤ w7.heap.size := by omega))
    (try (have z7_0_0 : w.heap.size < w7.heap.size := by omega))
    (try (have z7_0_1 : w.heap.size + 1 < w7.heap.size := by omega))
    (try (have z7_0_2 : w.heap.size + 1 + 1 < w7.heap.size := by omega))
    (try (have z7_0_3 : w.heap.size + 1 + 1 + 1 < w7.heap.size := by omega))
    (try (have z7_1_0 : w1.heap.size < w7.heap.size := by omega))
    (try (have z7_1_1 : w1.heap.size + 1 < w7.heap.size := by omega))
    (try (have z7_2_0 : w2.heap.size < w7.heap.size := by omega))
    (try (have z7_2_1 : w2.heap.size + 1 < w7.heap.size := by omega))
    (try (have z7_3_0 : w3.heap.size < w7.heap.size := by omega))
    (try (have z7_3_1 : w3.heap.size + 1 < w7.heap.size := by omega))
    (try (have z7_4_0 : w4.heap.size < w7.heap.size := by omega))
    (try (have z7_4_1 : w4.heap.size + 1 < w7.heap.size := by omega))
    (try (have z7_5_0 : w5.heap.size < w7.heap.size := by omega))
    (try (have z7_5_1 : w5.heap.size + 1 < w7.heap.size := by omega))
    (try (have z7_6_0 : w6.heap.size < w7.heap.size := by omega))
    (try (have z7_6_1 : w6.heap.size + 1 < w7.heap.size := by omega))
    go_wp2_with fail
    go_ret
    exact ⟨rfl, (by repeat' (first | with_reducible exact Below.refl _ _ | with_reducible refine Below.alloc ?_ (by first | omega | (simp; done) | (simp; omega)) _ | with_reducible refine Below.drew ?_ | with_reducible refine below_drewN ?_ _ | with_reducible refine Below.setCell ?_ (by first | omega | (simp; done) | (simp; omega)) _ | with_reducible refine Below.grown ?_ (by assumption) (by first | omega | (simp; done) | (simp; omega)) (by intro k hk; cases hk; omega) | with_reducible refine Below.trans ?_ (Below.mono (by assumption) (by first | omega | (simp; done) | (simp; omega)))))⟩
  · have CS := fun W => rs_rt (szJobS_c pp n cap 1048576 W hn (by omega))
    rw [if_neg (by omega)] at CS
    go_enter Try.func14, Try.ntmps14
    go_wp2_with fail
    go_at_call 26
    refine (CS _).mono ?_
    rintro e w1 ⟨rfl, hb1⟩
    obtain ⟨hc1, hf1, -, hz1⟩ := bcell hb1
    (try simp at hz1)
    (try (have y1 : w.heap.size ≤ w1.heap.size := by omega))
    (try (have z1_0_0 : w.heap.size < w1.heap.size := by omega))
    (try (have z1_0_1 : w.heap.size + 1 < w1.heap.size := by omega))
    (try (have z1_0_2 : w.heap.size + 1 + 1 < w1.heap.size := by omega))
    (try (have z1_0_3 : w.heap.size + 1 + 1 + 1 < w1.heap.size := by omega))
    go_wp2_with fail
    go_ret
    exact ⟨rfl, (by repeat' (first | with_reducible exact Below.refl _ _ | with_reducible refine Below.alloc ?_ (by first | omega | (simp; done) | (simp; omega)) _ | with_reducible refine Below.drew ?_ | with_reducible refine below_drewN ?_ _ | with_reducible refine Below.setCell ?_ (by first | omega | (simp; done) | (simp; omega)) _ | with_reducible refine Below.grown ?_ (by assumption) (by first | omega | (simp; done) | (simp; omega)) (by intro k hk; cases hk; omega) | with_reducible refine Below.trans ?_ (Below.mono (by assumption) (by first | omega | (simp; done) | (simp; omega)))))⟩
end Go.Proofs.Ytglglgfiifjejaa
