/- The walk of the law FnBalanceRack; no statement is proved here. -/
import Derived.Test.YtimfabpigpcjhaaBal2
import Derived.Test.YtimfabpigpcjhaaPlBal
import Derived.Test.YtimfabpigpcjhaaBalDr
namespace Go.Proofs.Ytimfabpigpcjhaa
open Go.ChangeShapes Go.WideShapes Go.ChangeAt Go.RowKit
set_option linter.unusedVariables false
set_option linter.unusedSimpArgs false

theorem equalBools_same {va vb : Value} {bs : List Bool} {B1 B2 : Nat} {w : World} (ha : OwnB w B1 va bs) (hb : OwnB w B2 vb bs) (hl : bs.length ≤ 1048576) : Calls Try.prog 38 #[va, vb] w (Rd (.bool true) w) := by
  obtain ⟨n, hn⟩ : ∃ n, bs.length = n := ⟨_, rfl⟩
  by_cases h0 : 0 < n
  · rcases ha.forms with ⟨_, rfl⟩ | ⟨g, cap, rfl⟩
    · simp at hn; omega
    · rcases hb.forms with ⟨_, rfl⟩ | ⟨g', cap', rfl⟩
      · simp at hn; omega
      · rw [hn] at ha hb hl ⊢
        have e0 : ((n : Int) != (n : Int)) = false := by simp
        clear hn
        go_enter Try.func38, Try.ntmps38
        go_wp2_with fail
        go_loopw [5] (fun i wr => ∃ k : Nat, k ≤ n ∧ i = .int .i64 k ∧ Drew w wr) (fun i _ => n - (intOf i).toNat)
        case atStart => exact ⟨0, Nat.zero_le _, rfl, Drew.refl _⟩
        case round =>
          obtain ⟨k, hk, rfl, hd⟩ := hrel
          by_cases hlt : k < n
          · have hcell := (hd.cell ⟨g, k, none⟩).trans (ha.at.2.2.2.1 k hlt)
            have hcell' := (hd.cell ⟨g', k, none⟩).trans (hb.at.2.2.2.1 k hlt)
            have i1 : (0 : Int) ≤ (k : Int) := by omega
            have i2 : (k : Int) < (n : Int) := by omega
            cases hx : eb bs k
            · rw [hx] at hcell hcell'
              go_wp2_with fail
              go_quiet (fail)
              go_wp2
              go_roundw
              case rel => exact ⟨k + 1, by omega, by go_num, (by repeat (first | exact Drew.refl _ | assumption | refine Drew.drewN ?_ _ | refine Drew.drew ?_))⟩
              case measure => simp [intOf]; omega
            · rw [hx] at hcell hcell'
              go_wp2_with fail
              go_quiet (fail)
              go_wp2
              go_roundw
              case rel => exact ⟨k + 1, by omega, by go_num, (by repeat (first | exact Drew.refl _ | assumption | refine Drew.drewN ?_ _ | refine Drew.drew ?_))⟩
              case measure => simp [intOf]; omega
          · go_wp2
            go_ret
            exact ⟨rfl, (by repeat (first | exact Drew.refl _ | assumption | refine Drew.drewN ?_ _ | refine Drew.drew ?_))⟩
  · obtain rfl : n = 0 := by omega
    have hf : ∀ v B, OwnB w B v bs → ∃ p cap, v = .slice p 0 cap := fun v B h => by
      rcases h.forms with ⟨rfl, _⟩ | ⟨g, cap, rfl⟩
      · exact ⟨_, _, rfl⟩
      · exact ⟨_, cap, by rw [hn]⟩
    obtain ⟨p, cap, rfl⟩ := hf _ _ ha
    obtain ⟨p', cap', rfl⟩ := hf _ _ hb
    go_enter Try.func38, Try.ntmps38
    go_wp2_with fail
    go_loop [5] (fun i => i = .int .i64 0) (fun i => 0)
    case atStart => rfl
    case round =>
      obtain rfl := hrel
      go_wp2
      go_ret
      exact ⟨rfl, (by repeat (first | exact Drew.refl _ | assumption | refine Drew.drewN ?_ _ | refine Drew.drew ?_))⟩
theorem OwnB.slice {w : World} {B : Nat} {v : Value} {bs : List Bool} (h : OwnB w B v bs) : ∃ p cap, v = .slice p bs.length cap ∧ ∀ i, i < bs.length → ∃ g, p = some ⟨g, 0, none⟩ ∧ w.cell? ⟨g, i, none⟩ = some (.bool (eb bs i)) := by
  rcases h.forms with ⟨rfl, rfl⟩ | ⟨g, cap, rfl⟩
  · exact ⟨none, 0, rfl, fun i hi => by simp at hi⟩
  · exact ⟨_, cap, rfl, fun i hi => ⟨g, rfl, h.at.2.2.2.1 i hi⟩⟩
theorem lefts_eb {s n i : Nat} (h : i < n) : eb (lefts s n) i = bt s i := by rw [eb_get (by rw [lefts_length]; exact h)]; simp [lefts]
set_option maxHeartbeats 3000000 in
theorem FnBalanceRack_walk (v : Value) (w : World) (hv : BSl w v) : Calls Try.prog 9 #[v] w (Rt (.bool true) w) := by
  have hv' := hv
  obtain ⟨p, n0, cap0, rfl, _⟩ := hv'
  by_cases hn0 : 1048576 < n0
  · have d1 : decide (1048576 < (n0 : Int)) = true := decide_eq_true (by omega)
    go_enter Try.func9, Try.ntmps9
    go_wp2
    go_ret
    exact ⟨rfl, Below.refl _ _⟩
  · have d1 : decide (1048576 < (n0 : Int)) = false := decide_eq_false (by omega)
    go_enter Try.func9, Try.ntmps9
    go_wp2_with fail
    go_at_call 37
    refine (DrawBalanceRack_c hv).mono ?_
    rintro e w1 ⟨h, n, c, zs, rfl, ho, hn10, hb1⟩
    obtain ⟨hc1, hf1, -, hz1⟩ := bcell hb1
    (try simp at hz1)
    (try (have y1 : w.heap.size ≤ w1.heap.size := by omega))
    (try (have z1_0_0 : w.heap.size < w1.heap.size := by omega))
    (try (have z1_0_1 : w.heap.size + 1 < w1.heap.size := by omega))
    (try (have z1_0_2 : w.heap.size + 1 + 1 < w1.heap.size := by omega))
    (try (have z1_0_3 : w.heap.size + 1 + 1 + 1 < w1.heap.size := by omega))
    go_wp2_with fail
    have s1 := Own.sm ho (by omega)
    have hlen := mkhid s1.len
    go_at_call 33
    refine (impl_BalanceRack_s s1).mono ?_
    rintro e w2 ⟨v1, rfl, o1, hb2⟩
    obtain ⟨hc2, hf2, -, hz2⟩ := bcell hb2
    (try simp at hz2)
    (try (have y2 : w.heap.size ≤ w2.heap.size := by omega))
    (try (have z2_0_0 : w.heap.size < w2.heap.size := by omega))
    (try (have z2_0_1 : w.heap.size + 1 < w2.heap.size := by omega))
    (try (have z2_0_2 : w.heap.size + 1 + 1 < w2.heap.size := by omega))
    (try (have z2_0_3 : w.heap.size + 1 + 1 + 1 < w2.heap.size := by omega))
    (try (have z2_1_0 : w1.heap.size < w2.heap.size := by omega))
    (try (have z2_1_1 : w1.heap.size + 1 < w2.heap.size := by omega))
    go_wp2_with fail
    go_at_call 32
    refine (spec_BalanceRack_s (s1.below hb2)).mono ?_
    rintro e w3 ⟨v2, rfl, o2, hb3⟩
    obtain ⟨hc3, hf3, -, hz3⟩ := bcell hb3
    (try simp at hz3)
    (try (have y3 : w.heap.size ≤ w3.heap.size := by omega))
    (try (have z3_0_0 : w.heap.size < w3.heap.size := by omega))
    (try (have z3_0_1 : w.heap.size + 1 < w3.heap.size := by omega))
    (try (have z3_0_2 : w.heap.size + 1 + 1 < w3.heap.size := by omega))
    (try (have z3_0_3 : w.heap.size + 1 + 1 + 1 < w3.heap.size := by omega))
    (try (have z3_1_0 : w1.heap.size < w3.heap.size := by omega))
    (try (have z3_1_1 : w1.heap.size + 1 < w3.heap.size := by omega))
    (try (have z3_2_0 : w2.heap.size < w3.heap.size := by omega))
    (try (have z3_2_1 : w2.heap.size + 1 < w3.heap.size := by omega))
    go_wp2_with fail
    have s3 := (s1.below hb2).below hb3
    have o13 := o1.below hb3
    have hsm : (balR zs).length ≤ 1048576 := by
      have hl := hlen.out
      unfold balR; split
      · rw [lefts_length]; omega
      · simp
    have HL := hlen
    cases hok : okRack zs
    · have hbI := (balR_no hok).2
      rw [hbI]
      go_at_call 38
      refine (rd_rt (equalBools_same o13 o2 hsm)).mono ?_
      rintro e w4 ⟨rfl, hb4⟩
      obtain ⟨hc4, hf4, -, hz4⟩ := bcell hb4
      (try simp at hz4)
      (try (have y4 : w.heap.size ≤ w4.heap.size := by omega))
      (try (have z4_0_0 : w.heap.size < w4.heap.size := by omega))
      (try (have z4_0_1 : w.heap.size + 1 < w4.heap.size := by omega))
      (try (have z4_0_2 : w.heap.size + 1 + 1 < w4.heap.size := by omega))
      (try (have z4_0_3 : w.heap.size + 1 + 1 + 1 < w4.heap.size := by omega))
      (try (have z4_1_0 : w1.heap.size < w4.heap.size := by omega))
      (try (have z4_1_1 : w1.heap.size + 1 < w4.heap.size := by omega))
      (try (have z4_2_0 : w2.heap.size < w4.heap.size := by omega))
      (try (have z4_2_1 : w2.heap.size + 1 < w4.heap.size := by omega))
      (try (have z4_3_0 : w3.heap.size < w4.heap.size := by omega))
      (try (have z4_3_1 : w3.heap.size + 1 < w4.heap.size := by omega))
      go_wp2_with fail
      go_at_call 38
      refine (rd_rt (equalBools_same (o13.below hb4) (o2.below hb4) hsm)).mono ?_
      rintro e w5 ⟨rfl, hb5⟩
      obtain ⟨hc5, hf5, -, hz5⟩ := bcell hb5
      (try simp at hz5)
      (try (have y5 : w.heap.size ≤ w5.heap.size := by omega))
      (try (have z5_0_0 : w.heap.size < w5.heap.size := by omega))
      (try (have z5_0_1 : w.heap.size + 1 < w5.heap.size := by omega))
      (try (have z5_0_2 : w.heap.size + 1 + 1 < w5.heap.size := by omega))
      (try (have z5_0_3 : w.heap.size + 1 + 1 + 1 < w5.heap.size := by omega))
      (try (have z5_1_0 : w1.heap.size < w5.heap.size := by omega))
      (try (have z5_1_1 : w1.heap.size + 1 < w5.heap.size := by omega))
      (try (have z5_2_0 : w2.heap.size < w5.heap.size := by omega))
      (try (have z5_2_1 : w2.heap.size + 1 < w5.heap.size := by omega))
      (try (have z5_3_0 : w3.heap.size < w5.heap.size := by omega))
      (try (have z5_3_1 : w3.heap.size + 1 < w5.heap.size := by omega))
      (try (have z5_4_0 : w4.heap.size < w5.heap.size := by omega))
      (try (have z5_4_1 : w4.heap.size + 1 < w5.heap.size := by omega))
      go_wp2_with fail
      go_ret
      exact ⟨rfl, ((((hb1.trans (hb2.mono hb1.size)).trans (hb3.mono (Nat.le_trans hb1.size hb2.size))).trans (hb4.mono (Nat.le_trans (Nat.le_trans hb1.size hb2.size) hb3.size)))).trans (hb5.mono (Nat.le_trans (Nat.le_trans (Nat.le_trans hb1.size hb2.size) hb3.size) hb4.size))⟩
    · obtain ⟨hbR, hbI⟩ := balR_yes hok HL.out
      obtain ⟨q7, hokn⟩ := okRack_iff.1 hok
      rw [HL.out] at q7 hokn
      have hbd := bal_bd hokn (2 ^ n)
      have hat := bal_at hokn (2 ^ n)
      have hda := dif_abs (zs := zs) (s := balS zs n (2 ^ n)) q7
      have hturn := fun i (hi : i < n) => turn_ge hokn q7 hi
      have hout := out_le hokn q7
      rw [← hat] at hda
      obtain ⟨S, hS⟩ : ∃ S, S = balS zs n (2 ^ n) := ⟨_, rfl⟩
      obtain ⟨D, hD⟩ : ∃ D, D = balD zs n (2 ^ n) := ⟨_, rfl⟩
      rw [← hS] at hbR hda
      rw [← hD] at hbI hda hbd
      simp only [← hS, ← hD] at hturn hout
      have HT := mkhid hturn
      have HO := mkhid hout
      have HA := mkhid hda
      have HG : Hid (∀ k : Nat, k ≤ n → -1000 * (k : Int) ≤ sgS zs S k ∧ sgS zs S k ≤ 1000 * k) := fun k hk => sgS_bd hokn S hk
      have HW : Hid (okW zs n) := hokn
      have dD : decide (D < 0) = false := decide_eq_false (by omega)
      have hDn : 0 ≤ D := by omega
      rw [hbI]
      rw [hbR] at o13 o2 hsm
      have CE := equalBools_same o13 o2 hsm
      obtain ⟨p1, cp1, e0, hsl0⟩ := o13.slice
      have e1 : v1 = .slice p1 n cp1 := by rw [e0, lefts_length]
      have hsl : ∀ i, i < n → ∃ g, p1 = some ⟨g, 0, none⟩ ∧ w3.cell? ⟨g, i, none⟩ = some (.bool (bt S i)) := fun i hi => by
        obtain ⟨g, a, b⟩ := hsl0 i (by rw [lefts_length]; exact hi)
        exact ⟨g, a, by rw [b, lefts_eb hi]⟩
      clear e0 hsl0
      subst e1
      have hB3 : Below w.heap.size w w3 := (hb1.trans (hb2.mono hb1.size)).trans (hb3.mono (Nat.le_trans hb1.size hb2.size))
      have hs13 := Nat.le_trans (Nat.le_trans hb1.size hb2.size) hb3.size
      clear hokn hda hturn hout hat hbR hS hD hbd hbI hc1 hf1 hc2 hf2 hc3 hf3 hz1 hz2 hz3 o13 o2 hlen ho s1 hb1 hb2 hb3 hsm
      go_at_call 38
      refine (rd_rt CE).mono ?_
      rintro e w4 ⟨rfl, hb4⟩
      obtain ⟨hc4, hf4, -, hz4⟩ := bcell hb4
      (try simp at hz4)
      (try (have y4 : w.heap.size ≤ w4.heap.size := by omega))
      (try (have z4_0_0 : w.heap.size < w4.heap.size := by omega))
      (try (have z4_0_1 : w.heap.size + 1 < w4.heap.size := by omega))
      (try (have z4_0_2 : w.heap.size + 1 + 1 < w4.heap.size := by omega))
      (try (have z4_0_3 : w.heap.size + 1 + 1 + 1 < w4.heap.size := by omega))
      (try (have z4_1_0 : w1.heap.size < w4.heap.size := by omega))
      (try (have z4_1_1 : w1.heap.size + 1 < w4.heap.size := by omega))
      (try (have z4_2_0 : w2.heap.size < w4.heap.size := by omega))
      (try (have z4_2_1 : w2.heap.size + 1 < w4.heap.size := by omega))
      (try (have z4_3_0 : w3.heap.size < w4.heap.size := by omega))
      (try (have z4_3_1 : w3.heap.size + 1 < w4.heap.size := by omega))
      go_wp2_with fail
      clear CE
      have s4 := s3.below hb4
      have hsl : ∀ i, i < n → ∃ g, p1 = some ⟨g, 0, none⟩ ∧ w4.cell? ⟨g, i, none⟩ = some (.bool (bt S i)) := fun i hi => by
        obtain ⟨g, a, b⟩ := hsl i hi
        exact ⟨g, a, by exact (hb4.cell (World.block_lt_of_cell? _ _ b)).trans b⟩
      have hB4 : Below w.heap.size w w4 := hB3.trans (hb4.mono hs13)
      clear hb4 s3 hB3 hs13 hc4 hf4
      have hls := s4.small
      go_loop [8, 9] (fun d i => ∃ k : Nat, k ≤ n ∧ i = .int .i64 k ∧ d = .int .i64 (sgS zs S k)) (fun _ i => n - (intOf i).toNat)
      case atStart => exact ⟨0, Nat.zero_le _, rfl, by rw [sgS_zero]⟩
      case round =>
        obtain ⟨k, hk, rfl, rfl⟩ := hrel
        by_cases hlt : k < n
        · have i1 : (0 : Int) ≤ (k : Int) := by omega
          have i2 : (k : Int) < (n : Int) := by omega
          have c1 := s4.cell hlt
          rw [Nat.zero_add] at c1
          obtain ⟨g, rfl, c2⟩ := hsl k hlt
          have b1 := HG.out k hk
          have b2 := HW.out k hlt
          cases hx : bt S k
          · rw [hx] at c2
            have hno := sgS_no (zs := zs) hx
            go_wp2
            go_round
            case rel => exact ⟨k + 1, by omega, by go_num, by rw [hno]⟩
            case measure => simp [intOf]; omega
          · rw [hx] at c2
            have hyes := sgS_yes (zs := zs) hx
            go_wp2
            go_round
            case rel => exact ⟨k + 1, by omega, by go_num, by rw [hyes]⟩
            case measure => simp [intOf]; omega
        · obtain rfl : n = k := by omega
          have hb := HG.out n (Nat.le_refl _)
          have hA := HA.out
          obtain ⟨d, hd⟩ : ∃ d, d = sgS zs S n := ⟨_, rfl⟩
          have HT' := HT.out
          rw [← hd] at HT'
          have HT2 := mkhid HT'
          rw [← hd] at hb hA
          rw [← hd]
          have HA2 := mkhid hA
          clear hA HA HG hd HT HT'
          go_wp2
          go_loop [10] (fun i => ∃ k : Nat, k ≤ n ∧ i = .int .i64 k) (fun i => n - (intOf i).toNat)
          case atStart => exact ⟨0, Nat.zero_le _, rfl⟩
          case round =>
            obtain ⟨k, hk, rfl⟩ := hrel
            by_cases hlt : k < n
            · have i1 : (0 : Int) ≤ (k : Int) := by omega
              have i2 : (k : Int) < (n : Int) := by omega
              have c1 := s4.cell hlt
              rw [Nat.zero_add] at c1
              obtain ⟨g, rfl, c2⟩ := hsl k hlt
              have b2 := HW.out k hlt
              cases hx : bt S k
              · obtain ⟨x, hx2⟩ : ∃ x, x = d + 2 * el zs k := ⟨_, rfl⟩
                have hge := HT2.out k hlt x (by rw [hx2, hx]; simp)
                rw [hx] at c2
                by_cases hm : x < -x
                · rw [if_pos hm] at hge
                  rw [hx2] at hm hge
                  have f1 : decide (-(d + 2 * el zs k) < D) = false := decide_eq_false (by omega)
                  go_wp2
                  go_round
                  case rel => exact ⟨k + 1, by omega, by go_num⟩
                  case measure => simp [intOf]; omega
                · rw [if_neg hm] at hge
                  rw [hx2] at hm hge
                  have f1 : decide ((d + 2 * el zs k) < D) = false := decide_eq_false (by omega)
                  go_wp2
                  go_round
                  case rel => exact ⟨k + 1, by omega, by go_num⟩
                  case measure => simp [intOf]; omega
              · obtain ⟨x, hx2⟩ : ∃ x, x = d - 2 * el zs k := ⟨_, rfl⟩
                have hge := HT2.out k hlt x (by rw [hx2, hx]; simp)
                rw [hx] at c2
                by_cases hm : x < -x
                · rw [if_pos hm] at hge
                  rw [hx2] at hm hge
                  have f1 : decide (-(d - 2 * el zs k) < D) = false := decide_eq_false (by omega)
                  go_wp2
                  go_round
                  case rel => exact ⟨k + 1, by omega, by go_num⟩
                  case measure => simp [intOf]; omega
                · rw [if_neg hm] at hge
                  rw [hx2] at hm hge
                  have f1 : decide ((d - 2 * el zs k) < D) = false := decide_eq_false (by omega)
                  go_wp2
                  go_round
                  case rel => exact ⟨k + 1, by omega, by go_num⟩
                  case measure => simp [intOf]; omega
            · obtain rfl : n = k := by omega
              by_cases hm : d < -d
              · have hA := HA2.out
                rw [if_pos hm] at hA
                clear HA2
                go_wp2_with (go_at_call 39; refine (highest_s s4).mono ?_; rintro e w5 ⟨⟨M, rfl, hM0, hM⟩, rfl⟩)
                have hle := HO.out M hM0 hM
                rw [hA] at hle
                rw [decide_eq_true hle]
                go_ret
                exact ⟨rfl, hB4⟩
              · have hA := HA2.out
                rw [if_neg hm] at hA
                clear HA2
                go_wp2_with (go_at_call 39; refine (highest_s s4).mono ?_; rintro e w5 ⟨⟨M, rfl, hM0, hM⟩, rfl⟩)
                have hle := HO.out M hM0 hM
                rw [hA] at hle
                rw [decide_eq_true hle]
                go_ret
                exact ⟨rfl, hB4⟩
end Go.Proofs.Ytimfabpigpcjhaa
