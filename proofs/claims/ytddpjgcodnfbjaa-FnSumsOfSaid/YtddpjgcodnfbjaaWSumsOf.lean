/- The walk of the law FnSumsOf; no statement is proved here. -/
import Derived.Test.YtddpjgcodnfbjaaDrawI
import Derived.Test.YtddpjgcodnfbjaaPlSumLaw
import Derived.Test.YtddpjgcodnfbjaaEq
namespace Go.Proofs.Ytddpjgcodnfbjaa
open Go.ChangeShapes Go.WideShapes Go.ChangeAt Go.RowKit
set_option linter.unusedVariables false
set_option linter.unusedSimpArgs false

/-- ascends finds an ascending list ascending -/
theorem ascends_s {b off n cap : Nat} {zs : List Int} {w : World} (h : Sl w b off n cap zs) (ha : ∀ i, i + 1 < n → el zs i < el zs (i + 1)) :
    Calls Try.prog 38 #[.slice (some ⟨b, off, none⟩) n cap] w (Rd (.bool true) w) := by
  have hs := h.small
  have HA := mkhid ha
  clear ha
  go_enter Try.func38, Try.ntmps38
  go_wp2_with fail
  go_loopw [3] (fun i wr => ∃ k : Nat, 1 ≤ k ∧ k ≤ n + 1 ∧ i = .int .i64 k ∧ Drew w wr) (fun i _ => n + 1 - (intOf i).toNat)
  case atStart => exact ⟨1, Nat.le_refl _, by omega, rfl, Drew.refl _⟩
  case round =>
    obtain ⟨k, hk1, hk, rfl, hd⟩ := hrel
    by_cases hlt : k < n
    · obtain ⟨j, rfl⟩ : ∃ j, k = j + 1 := ⟨k - 1, by omega⟩
      have s2 := h.drew hd
      have c1 := s2.cell hlt
      have c2 := s2.cell (k := j) (by omega)
      have hlt2 := HA.out j hlt
      have d1 : decide (el zs (j + 1) ≤ el zs j) = false := decide_eq_false (by omega)
      have i1 : (0 : Int) ≤ ((j + 1 : Nat) : Int) := by omega
      have i2 : ((j + 1 : Nat) : Int) < (n : Int) := by omega
      have w1 : IntKind.i64.wrap (((j + 1 : Nat) : Int) - 1) = (j : Int) := by rw [show ((j + 1 : Nat) : Int) - 1 = (j : Int) by omega]; exact IntWalk.i64_in _ (by omega)
      have i3 : (0 : Int) ≤ (j : Int) := by omega
      have i4 : (j : Int) < (n : Int) := by omega
      go_wp2_with fail
      go_quiet (fail)
      go_wp2
      go_roundw
      case rel => exact ⟨j + 1 + 1, by omega, by omega, by go_num, (by repeat (first | exact Drew.refl _ | assumption | refine Drew.drewN ?_ _ | refine Drew.drew ?_))⟩
      case measure => simp [intOf]; omega
    · go_wp2
      go_ret
      exact ⟨rfl, (by repeat (first | exact Drew.refl _ | assumption | refine Drew.drewN ?_ _ | refine Drew.drew ?_))⟩
set_option maxRecDepth 100000 in
set_option maxHeartbeats 1600000 in
theorem FnSumsOf_walk (v : Value) (w : World) (hv : BSl w v) : Calls Try.prog 8 #[v] w (Rt (.bool true) w) := by
  have hv' := hv
  obtain ⟨p, n, cap, rfl, _⟩ := hv'
  by_cases hn : 1048576 < n
  · have d1 : decide (1048576 < (n : Int)) = true := decide_eq_true (by omega)
    go_enter Try.func8, Try.ntmps8
    go_wp2
    go_ret
    exact ⟨rfl, Below.refl _ _⟩
  · have d1 : decide (1048576 < (n : Int)) = false := decide_eq_false (by omega)
    go_enter Try.func8, Try.ntmps8
    go_wp2_with fail
    go_at_call 36
    refine (DrawSumsOf_c hv).mono ?_
    rintro e w1 ⟨h, k, c, zs, a, rfl, ho, hk, hb1⟩
    obtain ⟨hc1, hf1, -, hz1⟩ := bcell hb1
    (try simp at hz1)
    (try (have y1 : w.heap.size ≤ w1.heap.size := by omega))
    (try (have z1_0_0 : w.heap.size < w1.heap.size := by omega))
    (try (have z1_0_1 : w.heap.size + 1 < w1.heap.size := by omega))
    (try (have z1_0_2 : w.heap.size + 1 + 1 < w1.heap.size := by omega))
    (try (have z1_0_3 : w.heap.size + 1 + 1 + 1 < w1.heap.size := by omega))
    have s1 := ho.sm (by omega)
    have hkz := s1.len
    have C1 := fun (W : World) (s : Sl W h 0 k c zs) => impl_SumsOf_s (a := a) s
    have C2 := fun (W : World) (s : Sl W h 0 k c zs) => spec_SumsOf_s (a := a) s
    by_cases hok : vLen zs = true ∧ 0 ≤ a ∧ a ≤ 200
    · have hlen := (vLen_iff.1 hok.1).2
      rw [hkz] at hlen
      have HL := mkhid hlen
      have SO := mkhid (sums_ok hkz hok.1 hok.2)
      obtain ⟨S, hS⟩ : ∃ S, S = sumsR zs a := ⟨_, rfl⟩
      have hSs : S.length ≤ 1048576 := by rw [hS]; exact sumsR_short
      rw [← hS] at C1 C2 SO
      obtain ⟨q, hq⟩ : ∃ q, S.length = q := ⟨_, rfl⟩
      have hq1 : 1 ≤ q := by have := SO.out.pos; omega
      have hq2 : q ≤ 1048576 := by omega
      have HQ := mkhid hq
      have HSS := mkhid hSs
      obtain ⟨_, a1, a2⟩ := hok
      clear hlen hS hSs hq hkz
      go_wp2_with fail
      go_at_call 35
      refine (C1 _ s1).mono ?_
      rintro e w2 ⟨v2, rfl, ho2, hb2⟩
      obtain ⟨hc2, hf2, -, hz2⟩ := bcell hb2
      (try simp at hz2)
      (try (have y2 : w.heap.size ≤ w2.heap.size := by omega))
      (try (have z2_0_0 : w.heap.size < w2.heap.size := by omega))
      (try (have z2_0_1 : w.heap.size + 1 < w2.heap.size := by omega))
      (try (have z2_0_2 : w.heap.size + 1 + 1 < w2.heap.size := by omega))
      (try (have z2_0_3 : w.heap.size + 1 + 1 + 1 < w2.heap.size := by omega))
      (try (have z2_1_0 : w1.heap.size < w2.heap.size := by omega))
      (try (have z2_1_1 : w1.heap.size + 1 < w2.heap.size := by omega))
      obtain ⟨g2, c2, rfl⟩ := own_form ho2 HQ.out hq1
      go_wp2_with fail
      go_at_call 37
      refine (C2 _ (s1.below hb2)).mono ?_
      rintro e w3 ⟨v3, rfl, ho3, hb3⟩
      obtain ⟨hc3, hf3, -, hz3⟩ := bcell hb3
      (try simp at hz3)
      (try (have y3 : w.heap.size ≤ w3.heap.size := by omega))
      (try (have z3_0_0 : w.heap.size < w3.heap.size := by omega))
      (try (have z3_0_1 : w.heap.size + 1 < w3.heap.size := by omega))
      (try (have z3_0_2 : w.heap.size + 1 + 1 < w3.heap.size := by omega))
      (try (have z3_0_3 : w.heap.size + 1 + 1 + 1 < w3.heap.size := by omega))
      (try (have z3_1_0 : w1.heap.size < w3.heap.size := by omega))
      (try (have z3_1_1 : w1.heap.size + 1 < w3.heap.size := by omega))
      (try (have z3_2_0 : w2.heap.size < w3.heap.size := by omega))
      (try (have z3_2_1 : w2.heap.size + 1 < w3.heap.size := by omega))
      have s3 := (s1.below hb2).below hb3
      replace ho2 := ho2.below hb3
      go_wp2_with fail
      go_at_call 17
      refine (equalInts_same _ _ S _ ho2.isl ho3.isl HSS.out).mono ?_
      rintro e w4 ⟨rfl, hb4⟩
      obtain ⟨hc4, hf4, -, hz4⟩ := bcell hb4
      (try simp at hz4)
      (try (have y4 : w.heap.size ≤ w4.heap.size := by omega))
      (try (have z4_0_0 : w.heap.size < w4.heap.size := by omega))
      (try (have z4_0_1 : w.heap.size + 1 < w4.heap.size := by omega))
      (try (have z4_0_2 : w.heap.size + 1 + 1 < w4.heap.size := by omega))
      (try (have z4_0_3 : w.heap.size + 1 + 1 + 1 < w4.heap.size := by omega))
      (try (have z4_1_0 : w1.heap.size < w4.heap.size := by omega))
      (try (have z4_1_1 : w1.heap.size + 1 < w4.heap.size := by omega))
      (try (have z4_2_0 : w2.heap.size < w4.heap.size := by omega))
      (try (have z4_2_1 : w2.heap.size + 1 < w4.heap.size := by omega))
      (try (have z4_3_0 : w3.heap.size < w4.heap.size := by omega))
      (try (have z4_3_1 : w3.heap.size + 1 < w4.heap.size := by omega))
      have s4 := s3.below hb4
      have sO := (ho2.below hb4).sm hq2
      have hB4 : Below w.heap.size w w4 := (by repeat' (first | with_reducible exact Below.refl _ _ | with_reducible refine Below.alloc ?_ (by first | omega | (simp; done) | (simp; omega)) _ | with_reducible refine Below.drew ?_ | with_reducible refine below_drewN ?_ _ | with_reducible refine Below.setCell ?_ (by first | omega | (simp; done) | (simp; omega)) _ | with_reducible refine Below.grown ?_ (by assumption) (by first | omega | (simp; done) | (simp; omega)) (by intro k hk; cases hk; omega) | with_reducible refine Below.trans ?_ (Below.mono (by assumption) (by first | omega | (simp; done) | (simp; omega)))))
      have e0 : ((q : Int) == 0) = false := by simp; omega
      clear hc1 hc2 hc3 hc4 hf1 hf2 hf3 hf4 s1 s3 ho ho2 ho3 C1 C2 hb1 hb2 hb3 hb4
      go_wp2_with fail
      go_loopw [6, 7, 8] (fun i _ _ wr => ∃ m : Nat, m ≤ q ∧ i = .int .i64 m ∧ Drew w4 wr) (fun i _ _ _ => q - (intOf i).toNat)
      case atStart => exact ⟨0, Nat.zero_le _, rfl, Drew.refl _⟩
      case round =>
        obtain ⟨m, hm, rfl, hd⟩ := hrel
        by_cases hlt : m < q
        · have i1 : (0 : Int) ≤ (m : Int) := by omega
          have i2 : (m : Int) < (q : Int) := by omega
          have c1 := (sO.drew hd).cell0 hlt
          have hxb := SO.out.bd m (by rw [HQ.out]; exact hlt)
          obtain ⟨x, hx⟩ : ∃ x, x = el S m := ⟨_, rfl⟩
          have HX := mkhid hx
          rw [← hx] at c1 hxb
          obtain ⟨x1, x2⟩ := hxb
          clear hx
          obtain ⟨wo, hwo⟩ : ∃ wo : World, Hid (wo = wr) := ⟨_, rfl⟩
          rw [← hwo.out] at hd
          go_wp2_with fail
          go_loopw [7, 8] (fun b j wr => ∃ l : Nat, l ≤ k ∧ j = .int .i64 l ∧ b = .bool (metB zs S x l) ∧ Drew w4 wr) (fun _ j _ => k - (intOf j).toNat)
          case atStart => exact ⟨0, Nat.zero_le _, rfl, by rw [metB_zero], hwo.out ▸ hd⟩
          case round =>
            obtain ⟨l, hl, rfl, rfl, hd2⟩ := hrel
            by_cases hlk : l < k
            · have j1 : (0 : Int) ≤ (l : Int) := by omega
              have j2 : (l : Int) < (k : Int) := by omega
              have f1 := (sO.drew hd2).cell0 hlt
              rw [← HX.out] at f1
              have f2 := (s4.drew hd2).cell0 hlk
              have hzb := HL.out l hlk
              obtain ⟨z, hz⟩ : ∃ z, z = el zs l := ⟨_, rfl⟩
              have hms := metB_succ zs S x l
              have hup := SO.out.up m l (by rw [HQ.out]; exact hlt) hlk
              rw [← HX.out] at hup
              rw [← hz] at f2 hzb hms hup
              obtain ⟨z1, z2⟩ := hzb
              have wr1 : IntKind.i64.wrap (x - z) = x - z := IntWalk.i64_in _ (by omega)
              have wr2 : IntKind.i64.wrap (x + z) = x + z := IntWalk.i64_in _ (by omega)
              have I1 := fun (nn : Nat) => Calls.q (isIn_s (x := x - z) ((sO.drew hd2).drewN nn))
              have HZ := mkhid hz
              clear hz
              cases hb : metB zs S x l
              · rw [hb, Bool.false_or] at hms
                have HMS := mkhid hms
                clear hms
                go_wp2_with fail
                go_quiet ((go_at_call 19; exact I1 _))
                generalize hwq : World.drewN wr _ = wq
                have hdq : Drew w4 wq := hwq ▸ hd2.drewN _
                clear hwq f1 f2 I1 hd2
                have f1 := (sO.drew hdq).cell0 hlt
                rw [← HX.out] at f1
                have f2 := (s4.drew hdq).cell0 hlk
                rw [← HZ.out] at f2
                by_cases hxa : x + z ≤ a
                · have d2 : decide (x + z ≤ a) = true := decide_eq_true hxa
                  have I2 := fun (nn : Nat) => Calls.q (isIn_s (x := x + z) ((sO.drew hdq).drewN nn))
                  rw [decide_eq_true (hup hxa)] at I2
                  clear hup
                  go_wp2_with fail
                  go_quiet ((go_at_call 19; exact I2 _))
                  clear wr1 wr2
                  go_wp2_with fail
                  go_roundw
                  case rel => exact ⟨l + 1, by omega, by go_num, by rw [HMS.out], (by repeat (first | exact Drew.refl _ | assumption | refine Drew.drewN ?_ _ | refine Drew.drew ?_))⟩
                  case measure => simp [intOf]; omega
                · have d2 : decide (x + z ≤ a) = false := decide_eq_false hxa
                  clear hup
                  go_wp2_with fail
                  go_quiet (fail)
                  clear wr1 wr2
                  go_wp2_with fail
                  go_roundw
                  case rel => exact ⟨l + 1, by omega, by go_num, by rw [HMS.out], (by repeat (first | exact Drew.refl _ | assumption | refine Drew.drewN ?_ _ | refine Drew.drew ?_))⟩
                  case measure => simp [intOf]; omega
              · rw [hb, Bool.true_or] at hms
                have HMS := mkhid hms
                clear hms
                go_wp2_with fail
                go_quiet ((go_at_call 19; exact I1 _))
                generalize hwq : World.drewN wr _ = wq
                have hdq : Drew w4 wq := hwq ▸ hd2.drewN _
                clear hwq f1 f2 I1 hd2
                have f1 := (sO.drew hdq).cell0 hlt
                rw [← HX.out] at f1
                have f2 := (s4.drew hdq).cell0 hlk
                rw [← HZ.out] at f2
                by_cases hxa : x + z ≤ a
                · have d2 : decide (x + z ≤ a) = true := decide_eq_true hxa
                  have I2 := fun (nn : Nat) => Calls.q (isIn_s (x := x + z) ((sO.drew hdq).drewN nn))
                  rw [decide_eq_true (hup hxa)] at I2
                  clear hup
                  go_wp2_with fail
                  go_quiet ((go_at_call 19; exact I2 _))
                  clear wr1 wr2
                  go_wp2_with fail
                  go_roundw
                  case rel => exact ⟨l + 1, by omega, by go_num, by rw [HMS.out], (by repeat (first | exact Drew.refl _ | assumption | refine Drew.drewN ?_ _ | refine Drew.drew ?_))⟩
                  case measure => simp [intOf]; omega
                · have d2 : decide (x + z ≤ a) = false := decide_eq_false hxa
                  clear hup
                  go_wp2_with fail
                  go_quiet (fail)
                  clear wr1 wr2
                  go_wp2_with fail
                  go_roundw
                  case rel => exact ⟨l + 1, by omega, by go_num, by rw [HMS.out], (by repeat (first | exact Drew.refl _ | assumption | refine Drew.drewN ?_ _ | refine Drew.drew ?_))⟩
                  case measure => simp [intOf]; omega
            · have hlk2 := mkhid (show l = k by omega)
              have hmet : metB zs S x l = true := by
                rw [hlk2.out, HX.out]; exact metB_done SO.out (by rw [HQ.out]; exact hlt)
              rw [hmet]
              clear hmet c1
              go_wp2
              go_roundw
              case rel => exact ⟨m + 1, by omega, by go_num, hd2⟩
              case measure => simp [intOf]; omega
        · have hf := SO.out.first
          have hfc := (sO.drew hd).cell0 (k := 0) (by omega)
          rw [hf] at hfc
          obtain ⟨qq, rfl⟩ : ∃ qq, q = qq + 1 := ⟨q - 1, by omega⟩
          have hlc := (sO.drew hd).cell0 (k := qq) (by omega)
          have hlb := SO.out.bd qq (by rw [HQ.out]; omega)
          have A1 := ascends_s (sO.drew hd) (fun i hi => SO.out.asc i (by rw [HQ.out]; exact hi))
          clear hf
          go_wp2_with fail
          go_at_call 38
          refine A1.mono ?_
          rintro e w5 ⟨rfl, hd5⟩
          have hlc := (sO.drew (hd.trans hd5)).cell0 (k := qq) (by omega)
          have d9 : decide (el S qq ≤ a) = true := decide_eq_true hlb.2
          have i5 : (0 : Int) ≤ ((qq + 1 : Nat) : Int) - 1 := by omega
          have i6 : ((qq + 1 : Nat) : Int) - 1 < ((qq + 1 : Nat) : Int) := by omega
          have hB5 := hB4.trans ((hd.trans hd5).below.mono hB4.size)
          go_wp2_with fail
          go_ret
          exact ⟨rfl, hB5⟩
    · have hS : sumsR zs a = [] := by unfold sumsR; rw [if_neg hok]
      rw [hS] at C1 C2
      clear hok hS hkz
      go_wp2_with fail
      go_at_call 35
      refine (C1 _ s1).mono ?_
      rintro e w2 ⟨v2, rfl, ho2, hb2⟩
      obtain ⟨hc2, hf2, -, hz2⟩ := bcell hb2
      (try simp at hz2)
      (try (have y2 : w.heap.size ≤ w2.heap.size := by omega))
      (try (have z2_0_0 : w.heap.size < w2.heap.size := by omega))
      (try (have z2_0_1 : w.heap.size + 1 < w2.heap.size := by omega))
      (try (have z2_0_2 : w.heap.size + 1 + 1 < w2.heap.size := by omega))
      (try (have z2_0_3 : w.heap.size + 1 + 1 + 1 < w2.heap.size := by omega))
      (try (have z2_1_0 : w1.heap.size < w2.heap.size := by omega))
      (try (have z2_1_1 : w1.heap.size + 1 < w2.heap.size := by omega))
      have hfo : ∃ pp cc, v2 = .slice pp 0 cc := by
        rcases ho2.forms with ⟨e, _⟩ | ⟨g, cc, e, _⟩
        · exact ⟨_, _, e⟩
        · exact ⟨_, _, e⟩
      obtain ⟨pp, cc, rfl⟩ := hfo
      go_wp2_with fail
      go_at_call 37
      refine (C2 _ (s1.below hb2)).mono ?_
      rintro e w3 ⟨v3, rfl, ho3, hb3⟩
      obtain ⟨hc3, hf3, -, hz3⟩ := bcell hb3
      (try simp at hz3)
      (try (have y3 : w.heap.size ≤ w3.heap.size := by omega))
      (try (have z3_0_0 : w.heap.size < w3.heap.size := by omega))
      (try (have z3_0_1 : w.heap.size + 1 < w3.heap.size := by omega))
      (try (have z3_0_2 : w.heap.size + 1 + 1 < w3.heap.size := by omega))
      (try (have z3_0_3 : w.heap.size + 1 + 1 + 1 < w3.heap.size := by omega))
      (try (have z3_1_0 : w1.heap.size < w3.heap.size := by omega))
      (try (have z3_1_1 : w1.heap.size + 1 < w3.heap.size := by omega))
      (try (have z3_2_0 : w2.heap.size < w3.heap.size := by omega))
      (try (have z3_2_1 : w2.heap.size + 1 < w3.heap.size := by omega))
      go_wp2_with fail
      have s3 := (s1.below hb2).below hb3
      replace ho2 := ho2.below hb3
      go_at_call 17
      refine (equalInts_same _ _ [] _ ho2.isl ho3.isl (by simp)).mono ?_
      rintro e w4 ⟨rfl, hb4⟩
      obtain ⟨hc4, hf4, -, hz4⟩ := bcell hb4
      (try simp at hz4)
      (try (have y4 : w.heap.size ≤ w4.heap.size := by omega))
      (try (have z4_0_0 : w.heap.size < w4.heap.size := by omega))
      (try (have z4_0_1 : w.heap.size + 1 < w4.heap.size := by omega))
      (try (have z4_0_2 : w.heap.size + 1 + 1 < w4.heap.size := by omega))
      (try (have z4_0_3 : w.heap.size + 1 + 1 + 1 < w4.heap.size := by omega))
      (try (have z4_1_0 : w1.heap.size < w4.heap.size := by omega))
      (try (have z4_1_1 : w1.heap.size + 1 < w4.heap.size := by omega))
      (try (have z4_2_0 : w2.heap.size < w4.heap.size := by omega))
      (try (have z4_2_1 : w2.heap.size + 1 < w4.heap.size := by omega))
      (try (have z4_3_0 : w3.heap.size < w4.heap.size := by omega))
      (try (have z4_3_1 : w3.heap.size + 1 < w4.heap.size := by omega))
      go_wp2_with fail
      go_at_call 37
      refine (C2 _ (s3.below hb4)).mono ?_
      rintro e w5 ⟨v5, rfl, ho5, hb5⟩
      obtain ⟨hc5, hf5, -, hz5⟩ := bcell hb5
      (try simp at hz5)
      (try (have y5 : w.heap.size ≤ w5.heap.size := by omega))
      (try (have z5_0_0 : w.heap.size < w5.heap.size := by omega))
      (try (have z5_0_1 : w.heap.size + 1 < w5.heap.size := by omega))
      (try (have z5_0_2 : w.heap.size + 1 + 1 < w5.heap.size := by omega))
      (try (have z5_0_3 : w.heap.size + 1 + 1 + 1 < w5.heap.size := by omega))
      (try (have z5_1_0 : w1.heap.size < w5.heap.size := by omega))
      (try (have z5_1_1 : w1.heap.size + 1 < w5.heap.size := by omega))
      (try (have z5_2_0 : w2.heap.size < w5.heap.size := by omega))
      (try (have z5_2_1 : w2.heap.size + 1 < w5.heap.size := by omega))
      (try (have z5_3_0 : w3.heap.size < w5.heap.size := by omega))
      (try (have z5_3_1 : w3.heap.size + 1 < w5.heap.size := by omega))
      (try (have z5_4_0 : w4.heap.size < w5.heap.size := by omega))
      (try (have z5_4_1 : w4.heap.size + 1 < w5.heap.size := by omega))
      go_wp2_with fail
      go_at_call 17
      refine (equalInts_same _ _ [] _ ((ho2.below hb4).below hb5).isl ho5.isl (by simp)).mono ?_
      rintro e w6 ⟨rfl, hb6⟩
      obtain ⟨hc6, hf6, -, hz6⟩ := bcell hb6
      (try simp at hz6)
      (try (have y6 : w.heap.size ≤ w6.heap.size := by omega))
      (try (have z6_0_0 : w.heap.size < w6.heap.size := by omega))
      (try (have z6_0_1 : w.heap.size + 1 < w6.heap.size := by omega))
      (try (have z6_0_2 : w.heap.size + 1 + 1 < w6.heap.size := by omega))
      (try (have z6_0_3 : w.heap.size + 1 + 1 + 1 < w6.heap.size := by omega))
      (try (have z6_1_0 : w1.heap.size < w6.heap.size := by omega))
      (try (have z6_1_1 : w1.heap.size + 1 < w6.heap.size := by omega))
      (try (have z6_2_0 : w2.heap.size < w6.heap.size := by omega))
      (try (have z6_2_1 : w2.heap.size + 1 < w6.heap.size := by omega))
      (try (have z6_3_0 : w3.heap.size < w6.heap.size := by omega))
      (try (have z6_3_1 : w3.heap.size + 1 < w6.heap.size := by omega))
      (try (have z6_4_0 : w4.heap.size < w6.heap.size := by omega))
      (try (have z6_4_1 : w4.heap.size + 1 < w6.heap.size := by omega))
      (try (have z6_5_0 : w5.heap.size < w6.heap.size := by omega))
      (try (have z6_5_1 : w5.heap.size + 1 < w6.heap.size := by omega))
      go_wp2_with fail
      go_ret
      exact ⟨rfl, (by repeat' (first | with_reducible exact Below.refl _ _ | with_reducible refine Below.alloc ?_ (by first | omega | (simp; done) | (simp; omega)) _ | with_reducible refine Below.drew ?_ | with_reducible refine below_drewN ?_ _ | with_reducible refine Below.setCell ?_ (by first | omega | (simp; done) | (simp; omega)) _ | with_reducible refine Below.grown ?_ (by assumption) (by first | omega | (simp; done) | (simp; omega)) (by intro k hk; cases hk; omega) | with_reducible refine Below.trans ?_ (Below.mono (by assumption) (by first | omega | (simp; done) | (simp; omega)))))⟩
end Go.Proofs.Ytddpjgcodnfbjaa
