/- FewestBars of spec, the tables; no statement is proved here. -/
import Derived.Test.YtimfabpigpcjhaaFewS
namespace Go.Proofs.Ytimfabpigpcjhaa
open Go.ChangeShapes Go.WideShapes Go.ChangeAt Go.RowKit
set_option linter.unusedVariables false
set_option linter.unusedSimpArgs false

set_option maxHeartbeats 4000000 in
theorem spec_fewest_s {b off n cap : Nat} {zs : List Int} {w : World} (h : Sl w b off n cap zs) (hn : n ≤ 7) (how : okW zs n) (bar : Int) (hob : okBar zs bar n) (hbar : 0 ≤ bar ∧ bar ≤ 200) :
    Calls Try.prog 59 #[.slice (some ⟨b, off, none⟩) n cap, (.int .i64 bar)] w
      (fun e w' => ∃ Y g, e = .returned (.slice (some ⟨g, 0, none⟩) (2 ^ n) (2 ^ n)) ∧ Own w' w.heap.size 3 (.slice (some ⟨g, 0, none⟩) (2 ^ n) (2 ^ n)) Y ∧ Tab (ft zs n bar) (el Y) (2 ^ n) ∧ Below w.heap.size w w') := by
  have hO := mkhid (ft_ones hn hob)
  have hsm := h.small
  obtain ⟨q1, q2⟩ := pow_le7 n (by omega)
  have hpc := fun {T : Nat → Int} {M : Nat} (hT : Tab (ft zs n bar) T M) (hM : M ≤ 2 ^ n) => tab_le hT hO.out hn hM
  have hend := fun {d : Int} {T : Nat → Int} {s : Nat} {v : Int} (hb : Best d (ft zs n bar) T s 0 v) (hs : s < 2 ^ n) (h0 : 0 < s) => best_end hb hO.out hn hs h0
  have CP := fun w' => power_c n hn w'
  have hft : ∀ s, ft zs n bar s = decide (bsS zs s n ≤ bar) := fun s => rfl
  have HBD := mkhid (fun (s k : Nat) (hk : k ≤ n) => bsS_bd how s hk)
  have HW := mkhid how
  have HF := mkhid hft
  obtain ⟨N, hN⟩ : ∃ N, N = 2 ^ n := ⟨_, rfl⟩
  obtain ⟨f, hf⟩ : ∃ f, f = ft zs n bar := ⟨_, rfl⟩
  simp only [← hN, ← hf] at q1 q2 hpc hend CP hO HF ⊢
  have hml : N ≤ maxLen := by unfold maxLen; omega
  have hmk := run_make_row' (P := Try.prog) 45 3 (.int .i64 0) 8 Try.underlying45 Try.infoInt rfl .i64 .i64 N (by omega) hml
  have OX := zeros_own w N hml
  have OY := zeros_own (w.alloc (.cells (madeCells #[Value.int .i64 0] N) 3)) N hml
  have hb1 : Below w.heap.size w (w.alloc (.cells (madeCells #[Value.int .i64 0] N) 3)) := (Below.refl _ _).alloc (Nat.le_refl _) _
  have hb2 := hb1.alloc (o := .cells (madeCells #[Value.int .i64 0] N) 3) hb1.size
  have OX2 := OX.alloc (.cells (madeCells #[Value.int .i64 0] N) 3)
  have OY2 := OY.le hb1.size
  have e1 : (w.alloc (.cells (madeCells #[Value.int .i64 0] N) 3)).heap.size = w.heap.size + 1 := by simp
  rw [e1] at OY2
  have HP : Hid (∀ (T : Nat → Int) (M : Nat), Tab f T M → M ≤ N → ∀ s, s < M → 0 ≤ T s ∧ T s ≤ n) := fun T M hT hM s hs => hpc hT hM s hs
  have HE : Hid (∀ (d : Int) (T : Nat → Int) (s : Nat) (v : Int), Best d f T s 0 v → s < N → 0 < s → IsMin f T s v) := fun d T s v a b c => hend a b c
  have hT0 : Hid (Tab f (el (List.replicate N 0)) 1) := ⟨el_zeros (by omega), fun s a b => by omega⟩
  have hS0 : Hid (1 < N → SumI zs n N (List.replicate N 0) 1 0) := fun h1 => ⟨by simp, fun j hj => by
    obtain rfl : j = 0 := by omega
    rw [el_zeros (by omega)]
    have : ∀ k, k ≤ n → bsS zs 0 k = 0 := fun k hk => by
      induction k with
      | zero => rw [bsS_zero]
      | succ k ih => rw [bsS_no (by simp [bt])]; exact ih (by omega)
    exact (this n (Nat.le_refl _)).symm, by rw [el_zeros h1, bsS_zero], fun j h1 h2 => el_zeros h2⟩
  clear hpc hend hf hN hO hob OX OY hb1 e1 hft how
  go_enter Try.func59, Try.ntmps59
  go_wp2_with (go_at_call 70; refine (CP _).mono ?_; rintro e w1 ⟨rfl, rfl⟩)
  have hwb := h.lt
  go_loopw [8] (fun s wr => ∃ k : Nat, ∃ X Y : List Int, 1 ≤ k ∧ k ≤ N ∧ s = .int .i64 k ∧ Own wr w.heap.size 3 (.slice (some ⟨w.heap.size, 0, none⟩) N N) X ∧ Own wr w.heap.size 3 (.slice (some ⟨w.heap.size + 1, 0, none⟩) N N) Y ∧ Below w.heap.size w wr ∧ Hid (k < N → SumI zs n N X k 0) ∧ Hid (Y.length = N) ∧ Hid (Tab f (el Y) k)) (fun s _ => N - (intOf s).toNat)
  case atStart => exact ⟨1, _, _, Nat.le_refl _, q2, rfl, OX2, OY2, hb2, hS0, by simp [mkhid], hT0⟩
  case round =>
    obtain ⟨s, X0, Y0, hs1, hs, rfl, hx, hy, hbr, HS, HLY, HT⟩ := hrel
    clear OX2 OY2 hb2 hS0 hT0
    by_cases hlt : s < N
    · have k1 : (0 : Int) ≤ (s : Int) := by omega
      have k2 : (s : Int) < (N : Int) := by omega
      have HS1 := mkhid (HS.out hlt)
      clear HS
      go_wp2_with fail
      go_loopw [9] (fun i wr => ∃ k : Nat, ∃ X : List Int, k ≤ n ∧ i = .int .i64 k ∧ Own wr w.heap.size 3 (.slice (some ⟨w.heap.size, 0, none⟩) N N) X ∧ Own wr w.heap.size 3 (.slice (some ⟨w.heap.size + 1, 0, none⟩) N N) Y0 ∧ Below w.heap.size w wr ∧ Hid (SumI zs n N X s k)) (fun i _ => n - (intOf i).toNat)
      case atStart => exact ⟨0, X0, Nat.zero_le _, rfl, hx, hy, hbr, HS1⟩
      case round =>
        clear hx hy hbr HS1
        obtain ⟨k, X, hk, rfl, hx, hy, hbr, HS⟩ := hrel
        by_cases hkn : k < n
        · have i1 : (0 : Int) ≤ (k : Int) := by omega
          have i2 : (k : Int) < (n : Int) := by omega
          have c1 := (h.below hbr).cell hkn
          have CH := fun w' => has_c s k (by omega) (by omega) w'
          have f1 := (own_facts hx s).1 hlt
          have ff := (own_facts hx s).2
          rw [HS.out.2.2.1] at f1
          have b1 := HBD.out s k hk
          have b2 := HW.out k hkn
          cases hbt : bt s k
          · rw [hbt] at CH
            have HS2 := mkhid (sumI_same HS.out hbt)
            go_wp2_with (go_at_call 65; refine (CH _).mono ?_; rintro e w1 ⟨rfl, rfl⟩)
            go_roundw
            case rel => exact ⟨k + 1, X, by omega, by go_num, hx, hy, hbr, HS2⟩
            case measure => simp [intOf]; omega
          · rw [hbt] at CH
            have HS2 := mkhid (sumI_set HS.out hlt (bsS_yes hbt).symm)
            have P1 := own_set hx s (bsS zs s k + el zs k)
            have P2 := own_setO (j := s) (u := (.int .i64 (bsS zs s k + el zs k))) hy (g := w.heap.size) (by omega)
            have hb3 := hbr.setCell (p := ⟨w.heap.size, s, none⟩) (Nat.le_refl _) (.int .i64 (bsS zs s k + el zs k))
            have hw1 : IntKind.i64.wrap (bsS zs s k + el zs k) = bsS zs s k + el zs k := IntWalk.i64_in _ (by omega)
            go_wp2_with (go_at_call 65; refine (CH _).mono ?_; rintro e w1 ⟨rfl, rfl⟩)
            go_region
            all_goals go_wp2
            all_goals go_roundw
            case rel => exact ⟨k + 1, _, by omega, by go_num, P1, P2, (by first | exact hb3 | exact hb3.drew), HS2⟩
            case measure => simp [intOf]; omega
        · obtain rfl : n = k := by omega
          have hsY : s < Y0.length := by rw [HLY.out]; exact hlt
          have g1 := (own_facts hy s).1 hlt
          have gf := (own_facts hy s).2
          have P1 := own_set hy s ((n : Int) + 1)
          have P2 := own_setO (j := s) (u := (.int .i64 ((n : Int) + 1))) hx (g := w.heap.size + 1) (by omega)
          have hb3 := hbr.setCell (p := ⟨w.heap.size + 1, s, none⟩) (by simp) (.int .i64 ((n : Int) + 1))
          have hTs : Hid (Tab f (el (Y0.set s ((n : Int) + 1))) s) := tab_congr HT.out (by omega) (fun k hk => set_small hsY k hk)
          have hL2 : Hid ((Y0.set s ((n : Int) + 1)).length = N) := by show _ = _; rw [List.length_set]; exact HLY.out
          have hB0 : Hid (Best ((n : Int) + 1) f (el (Y0.set s ((n : Int) + 1))) s s (el (Y0.set s ((n : Int) + 1)) s)) := by show Best _ _ _ _ _ _; rw [set_at hsY]; exact best_top _ _ _ _
          go_wp2_with fail
          have hX : Hid (∀ j, j ≤ s → el X j = bsS zs j n) := fun j hj => by
            rcases Nat.lt_or_eq_of_le hj with e | e
            · exact HS.out.2.1 j e
            · subst e; exact HS.out.2.2.1
          have hS2 : Hid (s + 1 < N → SumI zs n N X (s + 1) 0) := fun h1 => sumI_next HS.out h1
          have hsc := sub_self s (by omega)
          go_loopw [10] (fun o wr => ∃ c : Nat, ∃ Y : List Int, c ≤ s ∧ o = .int .i64 c ∧ Own wr w.heap.size 3 (.slice (some ⟨w.heap.size, 0, none⟩) N N) X ∧ Own wr w.heap.size 3 (.slice (some ⟨w.heap.size + 1, 0, none⟩) N N) Y ∧ Below w.heap.size w wr ∧ Hid (Y.length = N) ∧ Hid (Tab f (el Y) s) ∧ Hid (Best ((n : Int) + 1) f (el Y) s c (el Y s))) (fun o _ => (intOf o).toNat)
          case atStart => exact ⟨s, _, Nat.le_refl _, rfl, P2, P1, hb3, hL2, hTs, hB0⟩
          case round =>
            clear P1 P2 hb3 hL2 hTs hB0 g1 gf hx hy hbr HS HLY HT hsY hsc
            obtain ⟨c, Y, hcs, rfl, hx, hy, hbr, HL2, HT2, HB⟩ := hrel
            by_cases hc0 : 0 < c
            · obtain ⟨c', rfl⟩ : ∃ c', c = c' + 1 := ⟨c - 1, by omega⟩
              have CI := fun w' => inside_c (c' + 1) s (by omega) (by omega) w'
              have f1 := (own_facts hx (c' + 1)).1 (by omega)
              rw [hX.out _ hcs] at f1
              cases hsub : sub (c' + 1) s
              · rw [hsub] at CI
                have HB3 : Hid (Best ((n : Int) + 1) f (el Y) s c' (el Y s)) := best_skip HB.out (gap_one _ _) (by omega) (fun e => by rw [hsub] at e; cases e)
                go_wp2_with (go_at_call 71; refine (CI _).mono ?_; rintro e w1 ⟨rfl, rfl⟩)
                go_roundw
                case rel => exact ⟨c', Y, by omega, (by first | rfl | go_num), hx, hy, hbr, HL2, HT2, HB3⟩
                case measure => first | (simp [intOf]; done) | (simp [intOf]; omega)
              · rw [hsub] at CI
                have hfc := HF.out (c' + 1)
                by_cases hle : bsS zs (c' + 1) n ≤ bar
                · have d1 : decide (bsS zs (c' + 1) n ≤ bar) = true := decide_eq_true hle
                  rw [d1] at hfc
                  have hrest := HP.out _ _ HT2.out hs (s - (c' + 1)) (by omega)
                  have hsY : s < Y.length := by rw [HL2.out]; exact hlt
                  have ex : (s : Int) - ((c' : Int) + 1) = ((s - (c' + 1) : Nat) : Int) := by omega
                  have f2 := (own_facts hy (s - (c' + 1))).1 (by omega)
                  have f3 := (own_facts hy s).1 hlt
                  have ff := (own_facts hy s).2
                  have HST := mkhid (fun m hm => stepS hsY hcs hsub HB.out hfc hrest.2 m hm)
                  have hTm : Hid (∀ m, Tab f (el (Y.set s m)) s) := fun m => tab_congr HT2.out (by omega) (fun k hk => set_small hsY k hk)
                  have hLm : Hid (∀ m, (Y.set s m).length = N) := fun m => by rw [List.length_set]; exact HL2.out
                  have hXm := fun m => own_setO (j := s) (u := (.int .i64 m)) hx (g := w.heap.size + 1) (by omega)
                  have hYm := fun m => own_set hy s m
                  have hbm := fun (m : Int) => hbr.setCell (p := ⟨w.heap.size + 1, s, none⟩) (by simp) (.int .i64 m)
                  obtain ⟨r, hr⟩ : ∃ r, r = el Y (s - (c' + 1)) := ⟨_, rfl⟩
                  obtain ⟨v, hv⟩ : ∃ v, v = el Y s := ⟨_, rfl⟩
                  rw [← hr] at hrest f2
                  rw [← hv] at f3
                  have HST2 : Hid (∀ m, (m = if 1 + r < v then 1 + r else v) → Best ((n : Int) + 1) f (el (Y.set s m)) s c' (el (Y.set s m) s)) := fun m hm => HST.out m (by rw [← hr, ← hv]; exact hm)
                  clear HST hr hv hfc hle
                  by_cases hm : 1 + r < v
                  · have HB3 := mkhid (HST2.out (1 + r) (by rw [if_pos hm]))
                    go_wp2_with (go_at_call 71; refine (CI _).mono ?_; rintro e w1 ⟨rfl, rfl⟩)
                    go_region
                    all_goals go_wp2
                    all_goals go_roundw
                    case rel => exact ⟨c', _, by omega, (by first | rfl | go_num), hXm _, hYm _, (by first | exact hbm _ | exact (hbm _).drew), hLm.out _, hTm.out _, HB3⟩
                    case measure => first | (simp [intOf]; done) | (simp [intOf]; omega)
                  · have HB3 := mkhid (HST2.out v (by rw [if_neg hm]))
                    go_wp2_with (go_at_call 71; refine (CI _).mono ?_; rintro e w1 ⟨rfl, rfl⟩)
                    go_region
                    all_goals go_wp2
                    all_goals go_roundw
                    case rel => exact ⟨c', _, by omega, (by first | rfl | go_num), hXm _, hYm _, (by first | exact hbm _ | exact (hbm _).drew), hLm.out _, hTm.out _, HB3⟩
                    case measure => first | (simp [intOf]; done) | (simp [intOf]; omega)
                · have d1 : decide (bsS zs (c' + 1) n ≤ bar) = false := decide_eq_false hle
                  rw [d1] at hfc
                  have HB3 : Hid (Best ((n : Int) + 1) f (el Y) s c' (el Y s)) := best_skip HB.out (gap_one _ _) (by omega) (fun _ => hfc)
                  clear hle
                  go_wp2_with (go_at_call 71; refine (CI _).mono ?_; rintro e w1 ⟨rfl, rfl⟩)
                  go_roundw
                  case rel => exact ⟨c', Y, by omega, (by first | rfl | go_num), hx, hy, hbr, HL2, HT2, HB3⟩
                  case measure => first | (simp [intOf]; done) | (simp [intOf]; omega)
            · obtain rfl : c = 0 := by omega
              have hfin : Hid (Tab f (el Y) (s + 1)) := tab_succ HT2.out (by omega) (fun _ _ => rfl) (HE.out _ _ _ _ HB.out hlt (by omega))
              go_wp2_with fail
              go_roundw
              case rel => exact ⟨s + 1, X, Y, by omega, by omega, (by first | rfl | go_num), hx, hy, hbr, hS2, HL2, hfin⟩
              case measure => first | (simp [intOf]; done) | (simp [intOf]; omega)
    · obtain rfl : N = s := by omega
      go_wp2_with fail
      go_ret
      exact ⟨Y0, _, rfl, hy, HT.out, hbr⟩
set_option maxHeartbeats 1000000 in
theorem spec_FewestBars_s {b off n cap : Nat} {zs : List Int} {bar : Int} {w : World} (h : Sl w b off n cap zs) :
    Calls Try.prog 30 #[.slice (some ⟨b, off, none⟩) n cap, (.int .i64 bar)] w (Rt (.int .i64 (fewR zs bar)) w) := by
  have HL := mkhid h.len
  have hsm := h.small
  have C1 := spec_validBars_s (bar := bar) h
  cases hv : vBar zs bar 20
  · have hn := mkhid (fewR_no (zs := zs) (bar := bar) (by
      cases h7 : vBar zs bar 7
      · rfl
      · obtain ⟨⟨a, b, c⟩, d⟩ := vBar_iff.1 h7
        rw [← hv]; exact (vBar_iff.2 ⟨⟨a, b, by omega⟩, d⟩).symm))
    rw [hv] at C1
    go_enter Try.func30, Try.ntmps30
    go_wp2_with (go_at_call 58; refine C1.mono ?_; rintro e w1 ⟨rfl, rfl⟩)
    go_ret
    exact ⟨ret_int hn.out.symm, Below.refl _ _⟩
  · rw [hv] at C1
    obtain ⟨⟨v1, v2, v3⟩, v4⟩ := vBar_iff.1 hv
    by_cases hn7 : n ≤ 7
    · have hv7 : vBar zs bar 7 = true := vBar_iff.2 ⟨⟨v1, v2, by rw [HL.out]; omega⟩, v4⟩
      rw [HL.out] at v4
      have how : okW zs n := fun i hi => by have := v4 i hi; omega
      have CF := spec_fewest_s h hn7 how bar v4 ⟨by omega, v2⟩
      have HY := mkhid (fun (T : Nat → Int) => fewR_yes (T := T) HL.out hv7)
      obtain ⟨q1, q2⟩ := pow_le7 n (by omega)
      obtain ⟨N, hN⟩ : ∃ N, N = 2 ^ n := ⟨_, rfl⟩
      simp only [← hN] at CF HY q1 q2
      clear hv hv7 how hN
      go_enter Try.func30, Try.ntmps30
      go_wp2_with (first | (go_at_call 58; refine C1.mono ?_; rintro e w1 ⟨rfl, rfl⟩) | (go_at_call 59; refine CF.mono ?_; rintro e w1 ⟨Y, g, rfl, hy, HT, hb⟩; have f1 := (own_facts hy (N - 1)).1 (by omega); have ex : (N : Int) - 1 = ((N - 1 : Nat) : Int) := (by omega); have hr := mkhid (HY.out _ HT)))
      go_ret
      exact ⟨ret_int (by have := HY.out _ ‹Tab _ _ _›; exact this.symm), ‹Below _ _ _›⟩
    · have hn := mkhid (fewR_no (zs := zs) (bar := bar) (by
        cases h7 : vBar zs bar 7
        · rfl
        · obtain ⟨⟨a, b, c⟩, d⟩ := vBar_iff.1 h7
          rw [HL.out] at c; omega))
      go_enter Try.func30, Try.ntmps30
      go_wp2_with (go_at_call 58; refine C1.mono ?_; rintro e w1 ⟨rfl, rfl⟩)
      go_ret
      exact ⟨ret_int hn.out.symm, Below.refl _ _⟩
end Go.Proofs.Ytimfabpigpcjhaa
