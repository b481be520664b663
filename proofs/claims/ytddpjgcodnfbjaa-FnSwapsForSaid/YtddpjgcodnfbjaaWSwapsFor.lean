/- The walk of the law FnSwapsFor; no statement is proved here. -/
import Derived.Test.YtddpjgcodnfbjaaDrawT
import Derived.Test.YtddpjgcodnfbjaaPlSwaps
import Derived.Test.YtddpjgcodnfbjaaSwap3
import Derived.Test.YtddpjgcodnfbjaaEq2
namespace Go.Proofs.Ytddpjgcodnfbjaa
open Go.ChangeShapes Go.WideShapes Go.ChangeAt Go.RowKit
set_option linter.unusedVariables false
set_option linter.unusedSimpArgs false

theorem prod_bd' (k : Nat) (h : k ≤ 24) : -24 ≤ (k : Int) * ((k : Int) - 1) ∧ (k : Int) * ((k : Int) - 1) ≤ 576 := by
  have : k = 0 ∨ 1 ≤ k := by omega
  rcases this with rfl | h1
  · simp
  · have a : (0 : Int) ≤ (k : Int) * ((k : Int) - 1) := Int.mul_nonneg (by omega) (by omega)
    have b : (k : Int) * ((k : Int) - 1) ≤ 24 * 24 := Int.mul_le_mul (by omega) (by omega) (by omega) (by omega)
    omega
set_option maxRecDepth 100000 in
set_option maxHeartbeats 3000000 in
theorem FnSwapsFor_walk (v : Value) (w : World) (hv : BSl w v) : Calls Try.prog 10 #[v] w (Rt (.bool true) w) := by
  have hv' := hv
  obtain ⟨p, n, cap, rfl, _⟩ := hv'
  by_cases hn : 1048576 < n
  · have d1 : decide (1048576 < (n : Int)) = true := decide_eq_true (by omega)
    go_enter Try.func10, Try.ntmps10
    go_wp2
    go_ret
    exact ⟨rfl, Below.refl _ _⟩
  · have d1 : decide (1048576 < (n : Int)) = false := decide_eq_false (by omega)
    go_enter Try.func10, Try.ntmps10
    go_wp2_with fail
    go_at_call 43
    refine (DrawSwapsFor_c hv).mono ?_
    rintro e w1 ⟨h, k, c, zs, rfl, ho, hk, hb1⟩
    obtain ⟨hc1, hf1, -, hz1⟩ := bcell hb1
    (try simp at hz1)
    (try (have y1 : w.heap.size ≤ w1.heap.size := by omega))
    (try (have z1_0_0 : w.heap.size < w1.heap.size := by omega))
    (try (have z1_0_1 : w.heap.size + 1 < w1.heap.size := by omega))
    (try (have z1_0_2 : w.heap.size + 1 + 1 < w1.heap.size := by omega))
    (try (have z1_0_3 : w.heap.size + 1 + 1 + 1 < w1.heap.size := by omega))
    have s1 := ho.sm (by omega)
    have hkz := s1.len
    have C1 := fun (W : World) (s : Sl W h 0 k c zs) => impl_SwapsFor_s s
    have C2 := fun (W : World) (s : Sl W h 0 k c zs) => spec_SwapsFor_s s
    cases hvt : vTurn zs
    · have e1 : swapsI zs = -1 := by unfold swapsI; rw [hvt]; rfl
      rw [e1] at C1 C2
      clear hkz e1 hvt
      go_wp2_with fail
      go_at_call 44
      refine (C1 _ s1).mono ?_
      rintro e w2 ⟨rfl, hb2⟩
      obtain ⟨hc2, hf2, -, hz2⟩ := bcell hb2
      (try simp at hz2)
      (try (have y2 : w.heap.size ≤ w2.heap.size := by omega))
      (try (have z2_0_0 : w.heap.size < w2.heap.size := by omega))
      (try (have z2_0_1 : w.heap.size + 1 < w2.heap.size := by omega))
      (try (have z2_0_2 : w.heap.size + 1 + 1 < w2.heap.size := by omega))
      (try (have z2_0_3 : w.heap.size + 1 + 1 + 1 < w2.heap.size := by omega))
      (try (have z2_1_0 : w1.heap.size < w2.heap.size := by omega))
      (try (have z2_1_1 : w1.heap.size + 1 < w2.heap.size := by omega))
      go_wp2_with fail
      go_at_call 45
      refine (C2 _ (s1.below hb2)).mono ?_
      rintro e w3 ⟨rfl, hb3⟩
      obtain ⟨hc3, hf3, -, hz3⟩ := bcell hb3
      (try simp at hz3)
      (try (have y3 : w.heap.size ≤ w3.heap.size := by omega))
      (try (have z3_0_0 : w.heap.size < w3.heap.size := by omega))
      (try (have z3_0_1 : w.heap.size + 1 < w3.heap.size := by omega))
      (try (have z3_0_2 : w.heap.size + 1 + 1 < w3.heap.size := by omega))
      (try (have z3_0_3 : w.heap.size + 1 + 1 + 1 < w3.heap.size := by omega))
      (try (have z3_1_0 : w1.heap.size < w3.heap.size := by omega))
      (try (have z3_1_1 : w1.heap.size + 1 < w3.heap.size := by omega))
      (try (have z3_2_0 : w2.heap.size < w3.heap.size := by omega))
      (try (have z3_2_1 : w2.heap.size + 1 < w3.heap.size := by omega))
      go_wp2_with fail
      go_at_call 45
      refine (C2 _ ((s1.below hb2).below hb3)).mono ?_
      rintro e w4 ⟨rfl, hb4⟩
      obtain ⟨hc4, hf4, -, hz4⟩ := bcell hb4
      (try simp at hz4)
      (try (have y4 : w.heap.size ≤ w4.heap.size := by omega))
      (try (have z4_0_0 : w.heap.size < w4.heap.size := by omega))
      (try (have z4_0_1 : w.heap.size + 1 < w4.heap.size := by omega))
      (try (have z4_0_2 : w.heap.size + 1 + 1 < w4.heap.size := by omega))
      (try (have z4_0_3 : w.heap.size + 1 + 1 + 1 < w4.heap.size := by omega))
      (try (have z4_1_0 : w1.heap.size < w4.heap.size := by omega))
      (try (have z4_1_1 : w1.heap.size + 1 < w4.heap.size := by omega))
      (try (have z4_2_0 : w2.heap.size < w4.heap.size := by omega))
      (try (have z4_2_1 : w2.heap.size + 1 < w4.heap.size := by omega))
      (try (have z4_3_0 : w3.heap.size < w4.heap.size := by omega))
      (try (have z4_3_1 : w3.heap.size + 1 < w4.heap.size := by omega))
      go_wp2_with fail
      go_ret
      exact ⟨rfl, (by repeat' (first | with_reducible exact Below.refl _ _ | with_reducible refine Below.alloc ?_ (by first | omega | (simp; done) | (simp; omega)) _ | with_reducible refine Below.drew ?_ | with_reducible refine below_drewN ?_ _ | with_reducible refine Below.setCell ?_ (by first | omega | (simp; done) | (simp; omega)) _ | with_reducible refine Below.grown ?_ (by assumption) (by first | omega | (simp; done) | (simp; omega)) (by intro k hk; cases hk; omega) | with_reducible refine Below.trans ?_ (Below.mono (by assumption) (by first | omega | (simp; done) | (simp; omega)))))⟩
    · have hsb := swaps_bd hvt
      have hboth := swaps_both hvt
      have hsr := swaps_bd (turn_rev hvt)
      have hk24 := (vTurn_iff.1 hvt).1
      rw [hkz] at hk24 hboth
      obtain ⟨S, hS⟩ : ∃ S, S = swapsI zs := ⟨_, rfl⟩
      have HSW := mkhid (fun (i : Nat) (hi : i + 1 < k) => (show swapsI (swp zs i) = S + (if el zs i < el zs (i + 1) then 1 else -1) by rw [hS]; exact swaps_swp hvt (by rw [hkz]; exact hi)))
      rw [← hS] at C1 C2 hsb hboth
      obtain ⟨R, hR⟩ : ∃ R, R = swapsI zs.reverse := ⟨_, rfl⟩
      rw [← hR] at hboth hsr
      have C9 := fun (W : World) (g c' : Nat) (s : Sl W g 0 k c' zs.reverse) => impl_SwapsFor_s s
      rw [← hR] at C9
      obtain ⟨b1, b2⟩ := hsb
      obtain ⟨b3, b4⟩ := hsr
      obtain ⟨b5, b6⟩ := prod_bd' k hk24
      have hfin := mkhid (show (2 * (S + R) == (k : Int) * ((k : Int) - 1)) = true by rw [hboth]; simp)
      have HLR := mkhid (show zs.reverse.length = k by rw [List.length_reverse, hkz])
      have HK := mkhid hkz
      have d2 : decide (S < 0) = false := decide_eq_false (by omega)
      obtain ⟨j0, ji, jz0, jz1, jz2⟩ := info_parts Try.infoInt
      clear hvt hboth hS hR hkz
      go_wp2_with fail
      go_at_call 44
      refine (C1 _ s1).mono ?_
      rintro e w2 ⟨rfl, hb2⟩
      obtain ⟨hc2, hf2, -, hz2⟩ := bcell hb2
      (try simp at hz2)
      (try (have y2 : w.heap.size ≤ w2.heap.size := by omega))
      (try (have z2_0_0 : w.heap.size < w2.heap.size := by omega))
      (try (have z2_0_1 : w.heap.size + 1 < w2.heap.size := by omega))
      (try (have z2_0_2 : w.heap.size + 1 + 1 < w2.heap.size := by omega))
      (try (have z2_0_3 : w.heap.size + 1 + 1 + 1 < w2.heap.size := by omega))
      (try (have z2_1_0 : w1.heap.size < w2.heap.size := by omega))
      (try (have z2_1_1 : w1.heap.size + 1 < w2.heap.size := by omega))
      go_wp2_with fail
      go_at_call 45
      refine (C2 _ (s1.below hb2)).mono ?_
      rintro e w3 ⟨rfl, hb3⟩
      obtain ⟨hc3, hf3, -, hz3⟩ := bcell hb3
      (try simp at hz3)
      (try (have y3 : w.heap.size ≤ w3.heap.size := by omega))
      (try (have z3_0_0 : w.heap.size < w3.heap.size := by omega))
      (try (have z3_0_1 : w.heap.size + 1 < w3.heap.size := by omega))
      (try (have z3_0_2 : w.heap.size + 1 + 1 < w3.heap.size := by omega))
      (try (have z3_0_3 : w.heap.size + 1 + 1 + 1 < w3.heap.size := by omega))
      (try (have z3_1_0 : w1.heap.size < w3.heap.size := by omega))
      (try (have z3_1_1 : w1.heap.size + 1 < w3.heap.size := by omega))
      (try (have z3_2_0 : w2.heap.size < w3.heap.size := by omega))
      (try (have z3_2_1 : w2.heap.size + 1 < w3.heap.size := by omega))
      go_wp2_with fail
      have s3 := (s1.below hb2).below hb3
      have hB3 : Below w.heap.size w w3 := (by repeat' (first | with_reducible exact Below.refl _ _ | with_reducible refine Below.alloc ?_ (by first | omega | (simp; done) | (simp; omega)) _ | with_reducible refine Below.drew ?_ | with_reducible refine below_drewN ?_ _ | with_reducible refine Below.setCell ?_ (by first | omega | (simp; done) | (simp; omega)) _ | with_reducible refine Below.grown ?_ (by assumption) (by first | omega | (simp; done) | (simp; omega)) (by intro k hk; cases hk; omega) | with_reducible refine Below.trans ?_ (Below.mono (by assumption) (by first | omega | (simp; done) | (simp; omega)))))
      clear hb1 hb2 hb3 hc1 hc2 hc3 hf1 hf2 hf3 s1 ho
      go_loopw [6, 7, 8] (fun i _ _ wr => ∃ q : Nat, i = .int .i64 q ∧ q ≤ 24 ∧ Sl wr h 0 k c zs ∧ Below w.heap.size w wr) (fun i _ _ _ => 25 - (intOf i).toNat)
      case atStart => exact ⟨0, rfl, by omega, s3, hB3⟩
      case round =>
        obtain ⟨q, rfl, hq24, s4, hB4⟩ := hrel
        clear s3 hB3
        have hsz := hB4.size
        by_cases hq2 : q + 1 < k
        · have i0 : (0 : Int) ≤ (q : Int) := by omega
          have i1 : (q : Int) < (k : Int) := by omega
          have i2 : (q : Int) + 1 < (k : Int) := by omega
          have i3 : (0 : Int) ≤ (q : Int) + 1 := by omega
          have i4 : ((q : Int) + 1).toNat = q + 1 := by omega
          have hown0 := own_empty wr wr.heap.size (Nat.le_refl _)
          have hlen : (zs.map (Value.int .i64)).length = k * 1 := by rw [List.length_map, HK.out]; omega
          have hcells := ints_cells (s4.below ((Below.refl wr.heap.size wr).alloc (Nat.le_refl _) (.cells #[] 3))).ints
          obtain ⟨r, hr⟩ : ∃ r, r = swapsI (swp zs q) := ⟨_, rfl⟩
          have HR := mkhid (fun (W : World) (g c' : Nat) (s : Sl W g 0 k c' (swp zs q)) => (show Calls Try.prog 44 #[.slice (some ⟨g, 0, none⟩) k c'] W (Rt (.int .i64 r) W) by rw [hr]; exact impl_SwapsFor_s s))
          rw [HSW.out q hq2] at hr
          by_cases hlt3 : el zs q < el zs (q + 1)
          · rw [if_pos hlt3] at hr
            have hdd : r - S = 1 := by omega
            have hcmp : decide (el zs q < el zs (q + 1)) = true := decide_eq_true hlt3
            clear hr hlt3
            go_wp2_with (at_builtin; refine wpList_append_own _ rfl _ _ 23 rfl wr.heap.size 3 j0 (.int .i64 0) 1 8 Try.underlying23 ji jz0 jz1 jz2 rfl (by decide) _ 0 [] rfl hown0 ⟨h, 0, none⟩ k c (zs.map (Value.int .i64)) rfl hlen hcells (ints_one zs) (by unfold maxLen; omega) (by omega) (by simp) ?_; intro v1 w1 hown1 hgrow1 hnil1; have ha := own_copy HK.out hown1; obtain ⟨g1, c1, rfl⟩ := own_form ha HK.out (by omega); have hg1 := (Own.at ha).2.1; have hb5 := below_copy rfl hgrow1; have s5 := s4.below hb5; have l1 := s5.cell0 hq2; have f1 := (own_facts ha q).1 (by omega); have f2 := (own_facts ha q).2; have ha2 := own_set ha q (el zs (q + 1)); have hb6 := hb5.setCell (p := ⟨g1, q, none⟩) hg1 (.int .i64 (el zs (q + 1))); have s6 := s4.below hb6; have l2 := s6.cell0 (k := q) (by omega); have f3 := (own_facts ha2 (q + 1)).1 (by omega); have f4 := (own_facts ha2 (q + 1)).2; have ha3 := own_set ha2 (q + 1) (el zs q); have hb7 := hb6.setCell (p := ⟨g1, q + 1, none⟩) hg1 (.int .i64 (el zs q)); have s7 := s4.below hb7; have m1 := s7.cell0 (k := q) (by omega); have m2 := s7.cell0 hq2; have C5 := HR.out _ _ _ (ha3.sm (by omega)); have hB7 := hB4.trans (hb7.mono hsz); clear hown1 hgrow1 hnil1 hb5 ha ha2 ha3 hb6 hb7 s5 s6)
            go_at_call 44
            refine C5.mono ?_
            rintro e w2 ⟨rfl, hb8⟩
            have s8 := s7.below hb8
            have m3 := s8.cell0 (k := q) (by omega)
            have m4 := s8.cell0 hq2
            have hB8 := hB7.trans (hb8.mono hB7.size)
            go_wp2_with fail
            go_quiet (fail)
            go_wp2_with fail
            go_roundw
            case rel => exact ⟨q + 1, by go_num, by omega, s8.drewN _, below_drewN hB8 _⟩
            case measure => simp [intOf]; omega
          · rw [if_neg hlt3] at hr
            have hdd : r - S = -1 := by omega
            have hcmp : decide (el zs q < el zs (q + 1)) = false := decide_eq_false hlt3
            clear hr hlt3
            go_wp2_with (at_builtin; refine wpList_append_own _ rfl _ _ 23 rfl wr.heap.size 3 j0 (.int .i64 0) 1 8 Try.underlying23 ji jz0 jz1 jz2 rfl (by decide) _ 0 [] rfl hown0 ⟨h, 0, none⟩ k c (zs.map (Value.int .i64)) rfl hlen hcells (ints_one zs) (by unfold maxLen; omega) (by omega) (by simp) ?_; intro v1 w1 hown1 hgrow1 hnil1; have ha := own_copy HK.out hown1; obtain ⟨g1, c1, rfl⟩ := own_form ha HK.out (by omega); have hg1 := (Own.at ha).2.1; have hb5 := below_copy rfl hgrow1; have s5 := s4.below hb5; have l1 := s5.cell0 hq2; have f1 := (own_facts ha q).1 (by omega); have f2 := (own_facts ha q).2; have ha2 := own_set ha q (el zs (q + 1)); have hb6 := hb5.setCell (p := ⟨g1, q, none⟩) hg1 (.int .i64 (el zs (q + 1))); have s6 := s4.below hb6; have l2 := s6.cell0 (k := q) (by omega); have f3 := (own_facts ha2 (q + 1)).1 (by omega); have f4 := (own_facts ha2 (q + 1)).2; have ha3 := own_set ha2 (q + 1) (el zs q); have hb7 := hb6.setCell (p := ⟨g1, q + 1, none⟩) hg1 (.int .i64 (el zs q)); have s7 := s4.below hb7; have m1 := s7.cell0 (k := q) (by omega); have m2 := s7.cell0 hq2; have C5 := HR.out _ _ _ (ha3.sm (by omega)); have hB7 := hB4.trans (hb7.mono hsz); clear hown1 hgrow1 hnil1 hb5 ha ha2 ha3 hb6 hb7 s5 s6)
            go_at_call 44
            refine C5.mono ?_
            rintro e w2 ⟨rfl, hb8⟩
            have s8 := s7.below hb8
            have m3 := s8.cell0 (k := q) (by omega)
            have m4 := s8.cell0 hq2
            have hB8 := hB7.trans (hb8.mono hB7.size)
            go_wp2_with fail
            go_quiet (fail)
            go_wp2_with fail
            go_roundw
            case rel => exact ⟨q + 1, by go_num, by omega, s8.drewN _, below_drewN hB8 _⟩
            case measure => simp [intOf]; omega
        · have i5 : decide ((q : Int) + 1 < (k : Int)) = false := decide_eq_false (by omega)
          have hfin2 := hfin.out
          go_wp2_with fail
          go_at_call 30
          refine (laws_backwards_s s4).mono ?_
          rintro e w7 ⟨g7, c7, rfl, ho7, hb7⟩
          rw [HLR.out] at ho7 ⊢
          have C10 := C9 _ _ _ (ho7.sm (by omega))
          go_wp2_with fail
          go_at_call 44
          refine C10.mono ?_
          rintro e w8 ⟨rfl, hb8⟩
          have hB8 := (hB4.trans (hb7.mono hsz)).trans (hb8.mono (by have := hb7.size; omega))
          go_wp2_with fail
          go_ret
          exact ⟨rfl, hB8⟩
end Go.Proofs.Ytddpjgcodnfbjaa
