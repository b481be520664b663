/- FireTime of impl, and the law's walk; no statement is proved here. -/
import Derived.Test.YtglglgfiifjejaaFire
namespace Go.Proofs.Ytglglgfiifjejaa
open Go.ChangeShapes Go.WideShapes Go.ChangeAt Go.RowKit
set_option linter.unusedVariables false
set_option linter.unusedSimpArgs false

/-- an array of 16 ints at g reads as f tells -/
def ArrI (w : World) (g : Nat) (f : Nat → Int) : Prop := g < w.heap.size ∧ ∀ i, i < 16 → w.cell? ⟨g, i, none⟩ = some (.int .i64 (f i)) ∧ w.frozen? ⟨g, i, none⟩ = false
theorem ArrI.grown {w w' : World} {g : Nat} {f : Nat → Int} {r : Option Nat} (h : ArrI w g f) (hg : w.grownBy w' r) (hne : some g ≠ r) : ArrI w' g f :=
  ⟨Nat.lt_of_lt_of_le h.1 hg.size, fun i hi => ⟨hg.cell (h.2 i hi).1 hne, (World.frozen?_of_block (hg.block g h.1 hne)).trans (h.2 i hi).2⟩⟩
theorem ArrI.congr {w : World} {g : Nat} {f f' : Nat → Int} (h : ArrI w g f) (he : ∀ i, i < 16 → f i = f' i) : ArrI w g f' := ⟨h.1, fun i hi => by rw [← he i hi]; exact h.2 i hi⟩
theorem ArrI.set {w : World} {g : Nat} {f : Nat → Int} (h : ArrI w g f) {j : Nat} (hj : j < 16) (u : Int) : ArrI (w.setCell ⟨g, j, none⟩ (.int .i64 u)) g (fun i => if i = j then u else f i) := by
  refine ⟨by simp [World.setCell]; exact h.1, fun i hi => ⟨?_, by rw [World.frozen?_setCell]; exact (h.2 i hi).2⟩⟩
  by_cases e : i = j
  · subst e; rw [World.cell?_setCell_same _ _ _ (h.2 i hi).1]; simp
  · rw [World.cell?_setCell_other _ _ _ _ (fun hh => e (congrArg Addr.off hh).symm)]; simp only [if_neg e]; exact (h.2 i hi).1
theorem ArrI.setO {w : World} {g g' : Nat} {f : Nat → Int} (h : ArrI w g f) (hne : g ≠ g') (j : Nat) (u : Value) : ArrI (w.setCell ⟨g', j, none⟩ u) g f :=
  h.grown (r := some g') (grown_setCell (grown_refl w (some g')) u) (by intro e; injection e with e; exact hne e)
theorem ArrI.drew {w : World} {g : Nat} {f : Nat → Int} (h : ArrI w g f) : ArrI w.drew g f := h
theorem arr_gen (w : World) (T : TypeId) (n i : Nat) (hi : i < n) : (w.alloc (.cells (List.replicate n (Value.int .i64 0)).toArray T)).cell? ⟨w.heap.size, i, none⟩ = some (.int .i64 0) ∧ (w.alloc (.cells (List.replicate n (Value.int .i64 0)).toArray T)).frozen? ⟨w.heap.size, i, none⟩ = false := by
  have e : ∀ o : Obj, (w.alloc o).heap[w.heap.size]? = some o := fun o => by rw [← World.alloc_eq]; simp
  refine ⟨?_, ?_⟩
  · unfold World.cell?; simp only [e]; simp [hi]
  · unfold World.frozen?; simp only [e]; simp
theorem arr_new (w : World) (T : TypeId) : ArrI (w.alloc (.cells (List.replicate 16 (Value.int .i64 0)).toArray T)) w.heap.size (fun _ => 0) :=
  ⟨by simp, fun i hi => arr_gen w T 16 i hi⟩
theorem idx16 (L : Nat → Int) (j : Nat) (hj : j < 16) (w : World) : (Instr.index 59 (.agg #[.int .i64 (L 0), .int .i64 (L 1), .int .i64 (L 2), .int .i64 (L 3), .int .i64 (L 4), .int .i64 (L 5), .int .i64 (L 6), .int .i64 (L 7), .int .i64 (L 8), .int .i64 (L 9), .int .i64 (L 10), .int .i64 (L 11), .int .i64 (L 12), .int .i64 (L 13), .int .i64 (L 14), .int .i64 (L 15)]) (.int .i64 (j : Int))).run Try.prog w = .ok (.int .i64 (L j)) w := by
  have : j = 0 ∨ j = 1 ∨ j = 2 ∨ j = 3 ∨ j = 4 ∨ j = 5 ∨ j = 6 ∨ j = 7 ∨ j = 8 ∨ j = 9 ∨ j = 10 ∨ j = 11 ∨ j = 12 ∨ j = 13 ∨ j = 14 ∨ j = 15 := by omega
  rcases this with rfl | rfl | rfl | rfl | rfl | rfl | rfl | rfl | rfl | rfl | rfl | rfl | rfl | rfl | rfl | rfl <;> first | rfl | (show _ = _; kernel_rfl)
set_option maxRecDepth 100000 in
set_option maxHeartbeats 2000000 in
theorem impl_FireTime_s {b off n cap b' off' n' cap' : Nat} {ts gs : List Int} {room : Int} {w : World} (h : Sl w b off n cap ts) (h' : Sl w b' off' n' cap' gs) :
    Calls Try.prog 40 #[.slice (some ⟨b, off, none⟩) n cap, .slice (some ⟨b', off', none⟩) n' cap', (.int .i64 room)] w (Rt (.int .i64 (fireI ts gs room)) w) := by
  have hs := h.small
  have hs' := h'.small
  have HN := mkhid h.len
  have HM := mkhid h'.len
  have C1 := impl_validTimes_s h
  have hno : ¬ ((n ≤ 16 ∧ okTm ts n) ∧ n' = n ∧ 1 ≤ room ∧ room ≤ 16) → Hid (fireI ts gs room = -1) := fun hh => by
    show _ = _
    unfold fireI
    rw [fireOk_no (fun h2 => hh (by
      obtain ⟨a, b, c, d, _⟩ := h2
      rw [HN.out] at a b c; rw [HM.out] at c; exact ⟨⟨b, a⟩, c, d⟩))]
    rfl
  by_cases h1 : n ≤ 16 ∧ okTm ts n
  · rw [tmB_iff.2 h1] at C1
    obtain ⟨hn16, ht⟩ := h1
    have HT := mkhid ht
    by_cases h2 : n' = n
    · have d2 : ((n' : Int) != (n : Int)) = false := by simp; omega
      by_cases h3 : 1 ≤ room
      · have d3 : decide (room < 1) = false := decide_eq_false (by omega)
        by_cases h4 : room ≤ 16
        · have d4 : decide (16 < room) = false := decide_eq_false (by omega)
          clear hno ht
          subst h2
          go_enter Try.func40, Try.ntmps40
          go_wp2_with (go_at_call 70; refine C1.mono ?_; rintro e w1 ⟨rfl, rfl⟩)
          have A10 := (arr_new w 59).grown (World.grownBy_alloc _ (.cells (List.replicate 16 (Value.int .i64 0)).toArray 59) none) (by simp)
          have A20 := arr_new (w.alloc (.cells (List.replicate 16 (Value.int .i64 0)).toArray 59)) 59
          have hsz1 : (w.alloc (.cells (List.replicate 16 (Value.int .i64 0)).toArray 59)).heap.size = w.heap.size + 1 := by simp
          rw [hsz1] at A20
          clear hsz1
          replace A10 := A10.congr (f' := fun i => (cntF gs i 0 : Int)) (fun i _ => by rw [cntF_zero]; rfl)
          replace A20 := A20.congr (f' := fun i => lngF ts gs i 0) (fun i _ => by rw [lngF_zero])
          have hb0 : Below w.heap.size w ((w.alloc (.cells (List.replicate 16 (Value.int .i64 0)).toArray 59)).alloc (.cells (List.replicate 16 (Value.int .i64 0)).toArray 59)) := ((Below.refl _ _).alloc (Nat.le_refl _) _).alloc (by simp) _
          go_loopw [34] (fun i wr => ∃ k : Nat, k ≤ n' ∧ i = .int .i64 k ∧ Hid (roomy gs room k) ∧ ArrI wr w.heap.size (fun i => (cntF gs i k : Int)) ∧ ArrI wr (w.heap.size + 1) (fun i => lngF ts gs i k) ∧ Below w.heap.size w wr) (fun i _ => n' - (intOf i).toNat)
          case atStart => exact ⟨0, Nat.zero_le _, rfl, roomy_zero h3, A10, A20, hb0⟩
          case round =>
          obtain ⟨k, hk, rfl, HR, A1, A2, hbr⟩ := hrel
          clear A10 A20 hb0
          by_cases hlt : k < n'
          · have i1 : (0 : Int) ≤ (k : Int) := by omega
            have i2 : (k : Int) < (n' : Int) := by omega
            have c1 := (h.below hbr).cell hlt
            have c2 := (h'.below hbr).cell hlt
            have hbad : ¬ ((0 ≤ el gs k ∧ el gs k ≤ 15) ∧ (cntF gs (el gs k) n' : Int) ≤ room) → Hid (fireI ts gs room = -1) := fun hh => by
              show _ = _
              unfold fireI
              rw [fireOk_no (fun h2 => hh (by have := h2.2.2.2.2 k (by rw [HM.out]; exact hlt); rw [HM.out] at this; exact this))]
              rfl
            by_cases e1 : 0 ≤ el gs k
            · have f1 : decide (el gs k < 0) = false := decide_eq_false (by omega)
              by_cases e2 : el gs k ≤ 15
              · have f2 : decide ((16 : Int) ≤ el gs k) = false := decide_eq_false (by omega)
                obtain ⟨x, hx⟩ : ∃ x : Nat, el gs k = x := ⟨(el gs k).toNat, by omega⟩
                have HX := mkhid hx
                have hx16 : x < 16 := by omega
                rw [hx] at c2 f1 f2 e1 e2 hbad
                have hcl := cntF_le gs (x : Int) k
                have g1 := (A1.2 x hx16).1
                have g2 := (A1.2 x hx16).2
                have k1 : (0 : Int) ≤ (x : Int) := by omega
                have k2 : (x : Int) < 16 := by omega
                by_cases hfull : (cntF gs x k : Int) = room
                · have f3 : ((cntF gs x k : Int) == room) = true := by simpa using hfull
                  have hi := hbad (fun hh => by
                    have a := cntF_mono gs (x : Int) (show k + 1 ≤ n' by omega)
                    rw [cntF_succ, if_pos HX.out] at a
                    have := hh.2
                    omega)
                  clear hbad hfull hx
                  go_wp2_with fail
                  go_ret
                  exact ⟨ret_int hi.out.symm, hbr⟩
                · have f3 : ((cntF gs x k : Int) == room) = false := by simpa using hfull
                  have hrm := mkhid (roomy_succ HR.out (by rw [HX.out]; exact ⟨e1, e2⟩) (by rw [HX.out]; exact hfull))
                  have B1' := (A1.set hx16 ((cntF gs x k : Int) + 1)).congr (f' := fun i => (cntF gs i (k + 1) : Int)) (fun i hi => by
                    by_cases e : i = x
                    · subst e; rw [if_pos rfl, cntF_succ, if_pos HX.out]; rfl
                    · rw [if_neg e, cntF_succ, if_neg (by rw [HX.out]; omega)])
                  have hb3 := hbr.setCell (p := ⟨w.heap.size, x, none⟩) (Nat.le_refl _) (.int .i64 ((cntF gs x k : Int) + 1))
                  have c3 := (h.below hb3).cell hlt
                  have g3 := ((A2.setO (g' := w.heap.size) (by omega) x (.int .i64 ((cntF gs x k : Int) + 1))).2 x hx16).1
                  have g4 := ((A2.setO (g' := w.heap.size) (by omega) x (.int .i64 ((cntF gs x k : Int) + 1))).2 x hx16).2
                  obtain ⟨m, hm⟩ : ∃ m, lngF ts gs x k = m := ⟨_, rfl⟩
                  simp only [hm] at g3
                  clear hbad hfull hx
                  obtain ⟨v, hv0⟩ : ∃ v, v = if m < el ts k then el ts k else m := ⟨_, rfl⟩
                  have hv : Hid (lngF ts gs x (k + 1) = v) := by
                    show _ = _; rw [lngF_succ, if_pos HX.out, hm, hv0]; split <;> omega
                  have HV0 := mkhid hv0
                  have B2 := ((A2.setO (g' := w.heap.size) (by omega) x (.int .i64 ((cntF gs x k : Int) + 1))).set hx16 v).congr (f' := fun i => lngF ts gs i (k + 1)) (fun i hi => by
                    by_cases e : i = x
                    · subst e; rw [if_pos rfl, hv.out]
                    · rw [if_neg e, lngF_succ, if_neg (by rw [HX.out]; omega)])
                  have B1 := B1'.setO (g' := w.heap.size + 1) (by omega) x (.int .i64 v)
                  have hb4 := hb3.setCell (p := ⟨w.heap.size + 1, x, none⟩) (by simp) (.int .i64 v)
                  rw [hv0] at B1 B2 hb4
                  clear hm hv0
                  go_wp2_with fail
                  go_region
                  all_goals go_wp2
                  all_goals go_roundw
                  case rel => exact ⟨k + 1, by omega, by go_num, hrm, B1, B2, (by first | exact hb4 | exact hb4.drew)⟩
                  case measure => simp [intOf]; omega
              · have f2 : decide ((16 : Int) ≤ el gs k) = true := decide_eq_true (by omega)
                have hi := hbad (fun hh => e2 hh.1.2)
                clear hbad e1 e2
                go_wp2_with fail
                go_ret
                exact ⟨ret_int hi.out.symm, hbr⟩
            · have f1 : decide (el gs k < 0) = true := decide_eq_true (by omega)
              have hi := hbad (fun hh => e1 hh.1.1)
              clear hbad e1
              go_wp2_with fail
              go_ret
              exact ⟨ret_int hi.out.symm, hbr⟩
          · have hkn := mkhid (show k = n' by omega)
            rw [hkn.out] at A2
            have hok : fireOk ts gs room = true := fireOk_iff.2 ⟨by rw [HN.out]; exact HT.out, by rw [HN.out]; exact hn16, by rw [HM.out, HN.out], ⟨h3, h4⟩, by rw [HM.out]; exact roomy_ok (hkn.out ▸ HR.out)⟩
            have hi : Hid (fireI ts gs room = sumTo (fun (g : Nat) => lngF ts gs (g : Int) n') 16) := by show _ = _; unfold fireI; rw [if_pos hok, HN.out]
            have hbL : ∀ i : Nat, 0 ≤ lngF ts gs (i : Int) n' ∧ lngF ts gs (i : Int) n' ≤ 500 := fun i => lngF_bd HT.out n' (Nat.le_refl _)
            have HBL := mkhid hbL
            obtain ⟨L, hL⟩ : ∃ L : Nat → Int, L = fun (i : Nat) => lngF ts gs (i : Int) n' := ⟨_, rfl⟩
            have HLL := mkhid hL
            rw [← hL] at A2
            clear hok hbL hL
            have l0 := (A2.2 0 (by omega)).1
            have l1 := (A2.2 1 (by omega)).1
            have l2 := (A2.2 2 (by omega)).1
            have l3 := (A2.2 3 (by omega)).1
            have l4 := (A2.2 4 (by omega)).1
            have l5 := (A2.2 5 (by omega)).1
            have l6 := (A2.2 6 (by omega)).1
            have l7 := (A2.2 7 (by omega)).1
            have l8 := (A2.2 8 (by omega)).1
            have l9 := (A2.2 9 (by omega)).1
            have l10 := (A2.2 10 (by omega)).1
            have l11 := (A2.2 11 (by omega)).1
            have l12 := (A2.2 12 (by omega)).1
            have l13 := (A2.2 13 (by omega)).1
            have l14 := (A2.2 14 (by omega)).1
            have l15 := (A2.2 15 (by omega)).1
            clear A2 A1
            go_wp2_with fail
            clear l0 l1 l2 l3 l4 l5 l6 l7 l8 l9 l10 l11 l12 l13 l14 l15
            have hsL : ∀ j, sumTo L j = sumTo (fun (g : Nat) => lngF ts gs (g : Int) n') j := fun j => by rw [HLL.out]
            have HSL := mkhid hsL
            clear hsL
            go_loop [11, 69] (fun s c => ∃ j : Nat, j ≤ 16 ∧ c = .int .i64 j ∧ s = .int .i64 (sumTo L j)) (fun _ c => 16 - (intOf c).toNat)
            case atStart => exact ⟨0, by omega, rfl, rfl⟩
            case round =>
              obtain ⟨j, hj, rfl, rfl⟩ := hrel
              have hsb := sumTo_bd (f := fun (g : Nat) => lngF ts gs (g : Int) n') (n := j) (c := 500) (fun i _ => HBL.out i)
              rw [← HSL.out j] at hsb
              obtain ⟨t, ht⟩ : ∃ t, t = sumTo L j := ⟨_, rfl⟩
              have hsu := mkhid (show sumTo L (j + 1) = t + L j by rw [ht]; rfl)
              have HTT := mkhid ht
              rw [← ht] at hsb ⊢
              obtain ⟨b1, b2⟩ := hsb
              clear ht
              by_cases hj16 : j < 16
              · have hix := fun (W : World) => idx16 L j hj16 W
                have hlj : 0 ≤ L j ∧ L j ≤ 500 := by rw [HLL.out]; exact HBL.out j
                obtain ⟨b3, b4⟩ := hlj
                have j1 : (j : Int) < 16 := by omega
                go_wp2_with fail
                go_round
                case rel => exact ⟨j + 1, by omega, by go_num, by rw [hsu.out]⟩
                case measure => simp [intOf]; omega
              · have hje := mkhid (show j = 16 by omega)
                go_wp2_with fail
                go_ret
                exact ⟨ret_int (by rw [hi.out, HTT.out, hje.out, HSL.out]), hbr⟩
        · have d4 : decide (16 < room) = true := decide_eq_true (by omega)
          have hi := hno (fun hh => h4 hh.2.2.2)
          clear hno ht h2
          go_enter Try.func40, Try.ntmps40
          go_wp2_with (go_at_call 70; refine C1.mono ?_; rintro e w1 ⟨rfl, rfl⟩)
          go_ret
          exact ⟨ret_int hi.out.symm, Below.refl _ _⟩
      · have d3 : decide (room < 1) = true := decide_eq_true (by omega)
        have hi := hno (fun hh => h3 hh.2.2.1)
        clear hno ht h2
        go_enter Try.func40, Try.ntmps40
        go_wp2_with (go_at_call 70; refine C1.mono ?_; rintro e w1 ⟨rfl, rfl⟩)
        go_ret
        exact ⟨ret_int hi.out.symm, Below.refl _ _⟩
    · have d2 : ((n' : Int) != (n : Int)) = true := by simp; omega
      have hi := hno (fun hh => h2 hh.2.1)
      clear hno ht
      go_enter Try.func40, Try.ntmps40
      go_wp2_with (go_at_call 70; refine C1.mono ?_; rintro e w1 ⟨rfl, rfl⟩)
      go_ret
      exact ⟨ret_int hi.out.symm, Below.refl _ _⟩
  · rw [tmB_no h1] at C1
    have hi := hno (fun hh => h1 hh.1)
    clear hno h1
    go_enter Try.func40, Try.ntmps40
    go_wp2_with (go_at_call 70; refine C1.mono ?_; rintro e w1 ⟨rfl, rfl⟩)
    go_ret
    exact ⟨ret_int hi.out.symm, Below.refl _ _⟩
theorem FnExactFireTime_walk (v0 : Value) (zs0 : List Int) (v1 : Value) (zs1 : List Int) (a2 : Int) (w : World) (hv0 : ISl w v0 zs0) (hv1 : ISl w v1 zs1) : Calls Try.prog 9 #[v0, v1, .int .i64 a2] w (Rt (.bool true) w) := by
  have hv0' := hv0
  obtain ⟨p0, cap0, rfl, _⟩ := hv0'
  have hv1' := hv1
  obtain ⟨p1, cap1, rfl, _⟩ := hv1'
  by_cases hl0 : zs0.length ≤ 1048576
  · have ml0 : zs0.length ≤ maxLen := by unfold maxLen; omega
    by_cases hl1 : zs1.length ≤ 1048576
    · have ml1 : zs1.length ≤ maxLen := by unfold maxLen; omega
      go_enter Try.func9, Try.ntmps9
      go_wp2_with fail
      have hB0 : Below w.heap.size w w := Below.refl _ _
      refine (toIntS_c _ zs0 _ (hv0.below hB0) hl0).mono ?_
      rintro e w1 ⟨g1, rfl, ho1, hb1⟩
      have hB1 := hB0.trans (hb1.mono hB0.size)
      have s0 := ho1.sl hl0 ml0
      clear ho1
      clear hB0 hb1
      go_wp2_with fail
      refine (toIntS_c _ zs1 _ (hv1.below hB1) hl1).mono ?_
      rintro e w2 ⟨g2, rfl, ho2, hb2⟩
      have hB2 := hB1.trans (hb2.mono hB1.size)
      replace s0 := s0.below hb2
      have s1 := ho2.sl hl1 ml1
      clear ho2
      clear hB1 hb2
      go_wp2_with fail
      refine (rd_rt (spec_FireTime_s s0 s1)).mono ?_
      rintro e w3 ⟨rfl, hb3⟩
      have hB3 := hB2.trans (hb3.mono hB2.size)
      replace s0 := s0.below hb3
      replace s1 := s1.below hb3
      clear hB2 hb3
      go_wp2_with fail
      clear s0
      clear s1
      refine (toIntS_c _ zs0 _ (hv0.below hB3) hl0).mono ?_
      rintro e w4 ⟨g4, rfl, ho4, hb4⟩
      have hB4 := hB3.trans (hb4.mono hB3.size)
      have s0 := ho4.sl hl0 ml0
      clear ho4
      clear hB3 hb4
      go_wp2_with fail
      refine (toIntS_c _ zs1 _ (hv1.below hB4) hl1).mono ?_
      rintro e w5 ⟨g5, rfl, ho5, hb5⟩
      have hB5 := hB4.trans (hb5.mono hB4.size)
      replace s0 := s0.below hb5
      have s1 := ho5.sl hl1 ml1
      clear ho5
      clear hB4 hb5
      go_wp2_with fail
      refine (impl_FireTime_s s0 s1).mono ?_
      rintro e w6 ⟨rfl, hb6⟩
      have hB6 := hB5.trans (hb6.mono hB5.size)
      replace s0 := s0.below hb6
      replace s1 := s1.below hb6
      clear hB5 hb6
      go_wp2_with fail
      refine (toIntS_c _ zs0 _ (hv0.below hB6) hl0).mono ?_
      rintro e w7 ⟨g7, rfl, ho7, hb7⟩
      have hB7 := hB6.trans (hb7.mono hB6.size)
      replace s0 := s0.below hb7
      replace s1 := s1.below hb7
      have t0 := ho7.sl hl0 ml0
      clear ho7
      clear hB6 hb7
      go_wp2_with fail
      refine (rd_rt (eqIntS_c _ _ zs0 zs0 _ s0.isl t0.isl hl0 hl0)).mono ?_
      rintro e w8 ⟨rfl, hb8⟩
      have hB8 := hB7.trans (hb8.mono hB7.size)
      replace s0 := s0.below hb8
      replace s1 := s1.below hb8
      replace t0 := t0.below hb8
      clear hB7 hb8
      go_wp2_with fail
      refine (toIntS_c _ zs1 _ (hv1.below hB8) hl1).mono ?_
      rintro e w9 ⟨g9, rfl, ho9, hb9⟩
      have hB9 := hB8.trans (hb9.mono hB8.size)
      replace s0 := s0.below hb9
      replace s1 := s1.below hb9
      replace t0 := t0.below hb9
      have t1 := ho9.sl hl1 ml1
      clear ho9
      clear hB8 hb9
      go_wp2_with fail
      refine (rd_rt (eqIntS_c _ _ zs1 zs1 _ s1.isl t1.isl hl1 hl1)).mono ?_
      rintro e w10 ⟨rfl, hb10⟩
      have hB10 := hB9.trans (hb10.mono hB9.size)
      replace s0 := s0.below hb10
      replace s1 := s1.below hb10
      replace t0 := t0.below hb10
      replace t1 := t1.below hb10
      clear hB9 hb10
      go_wp2
      go_ret
      exact ⟨rfl, hB10⟩
    · have hl1' : (1048576 : Int) < (zs1.length : Int) := by omega
      go_enter Try.func9, Try.ntmps9
      go_wp2
      all_goals (go_ret; exact ⟨rfl, Below.refl _ _⟩)
  · have hl0' : (1048576 : Int) < (zs0.length : Int) := by omega
    go_enter Try.func9, Try.ntmps9
    go_wp2
    all_goals (go_ret; exact ⟨rfl, Below.refl _ _⟩)
end Go.Proofs.Ytglglgfiifjejaa
