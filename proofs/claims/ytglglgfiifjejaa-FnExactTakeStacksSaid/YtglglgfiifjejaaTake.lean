/- TakeStacks (spec and impl), and the walk of its exact law; no statement is proved here. -/
import Derived.Test.YtglglgfiifjejaaPlTake
import Derived.Test.YtglglgfiifjejaaSwap3
import Derived.Test.YtglglgfiifjejaaHarp
namespace Go.Proofs.Ytglglgfiifjejaa
open Go.ChangeShapes Go.WideShapes Go.ChangeAt Go.RowKit
set_option linter.unusedVariables false
set_option linter.unusedSimpArgs false

noncomputable def takeR (xs ss : List Int) : List Int := if vStacks xs ss = true then upFrom 0 (takeN xs ss) else []
@[irreducible] noncomputable def takeB (xs ss : List Int) : Bool := vStacks xs ss && decide (takeN xs ss = xs.length)
theorem takeR_short {xs ss : List Int} (h : xs.length ≤ 1048576) : (takeR xs ss).length ≤ 1048576 := by
  unfold takeR; split
  · rw [upFrom_length]; have := takeN_le xs ss; omega
  · simp
theorem take_no {xs ss : List Int} {w : World} (h : vStacks xs ss = false) (w' : World) (hb : Below w.heap.size w w') : FrX 3 (fun v => .tuple #[v, .bool (takeB xs ss)]) (takeR xs ss) w (.returned (.tuple #[.slice none 0 0, .bool false])) w' := by
  refine ⟨.slice none 0 0, ?_, ?_, hb⟩
  · unfold takeB; rw [h]; rfl
  · have e : takeR xs ss = [] := by unfold takeR; rw [h]; rfl
    rw [e]; exact own_nil _ _ _
theorem take_part {xs ss : List Int} {p : Nat} {w : World} (h : vStacks xs ss = true) (hp : p < xs.length) (hf : frees xs ss p) (hn : ¬ free xs ss p) (v : Value) (w' : World) (ho : w'.ownsRow w.heap.size 3 1 v p ((upFrom 0 p).map (Value.int .i64))) (hb : Below w.heap.size w w') :
    FrX 3 (fun v => .tuple #[v, .bool (takeB xs ss)]) (takeR xs ss) w (.returned (.tuple #[v, .bool false])) w' := by
  have e0 := takeN_at hp hf hn
  refine ⟨v, ?_, ?_, hb⟩
  · unfold takeB; rw [h, e0, decide_eq_false (by omega)]; rfl
  · have e : takeR xs ss = upFrom 0 p := by unfold takeR; rw [h, if_pos rfl, e0]
    rw [e]; unfold Own; rw [upFrom_length]; exact ho
theorem take_all {xs ss : List Int} {p : Nat} {w : World} (h : vStacks xs ss = true) (hp : p = xs.length) (hf : frees xs ss p) (v : Value) (w' : World) (ho : w'.ownsRow w.heap.size 3 1 v p ((upFrom 0 p).map (Value.int .i64))) (hb : Below w.heap.size w w') :
    FrX 3 (fun v => .tuple #[v, .bool (takeB xs ss)]) (takeR xs ss) w (.returned (.tuple #[v, .bool true])) w' := by
  subst hp
  have e0 := takeN_all hf
  refine ⟨v, ?_, ?_, hb⟩
  · unfold takeB; rw [h, e0, decide_eq_true rfl]; rfl
  · have e : takeR xs ss = upFrom 0 xs.length := by unfold takeR; rw [h, if_pos rfl, e0]
    rw [e]; unfold Own; rw [upFrom_length]; exact ho
theorem impl_topOf_s {b off n cap b' off' cap' : Nat} {xs ss : List Int} {s p : Int} {w : World} (h : Sl w b off n cap xs) (h' : Sl w b' off' n cap' ss) :
    Calls Try.prog 98 #[.slice (some ⟨b, off, none⟩) n cap, .slice (some ⟨b', off', none⟩) n cap', (.int .i64 s), (.int .i64 p)] w (Rs (.int .i64 (topI xs ss s p n)) w) := by
  have hs := h.small
  obtain ⟨T, hT⟩ : ∃ T, T = topI xs ss s p n := ⟨_, rfl⟩
  rw [← hT]
  have HT := mkhid hT
  clear hT
  go_enter Try.func98, Try.ntmps98
  go_wp2_with fail
  go_loop [9] (fun i => ∃ k : Nat, k ≤ n ∧ i = .int .i64 ((k : Int) - 1) ∧ Hid (topI xs ss s p k = T)) (fun i => (intOf i + 1).toNat)
  case atStart => exact ⟨n, Nat.le_refl _, rfl, HT.out.symm⟩
  case round =>
    obtain ⟨k, hk, rfl, HK⟩ := hrel
    cases k with
    | zero =>
      have hv : Hid (T = -1) := by show _ = _; rw [← HK.out, topI_zero]
      go_wp2
      go_ret
      exact ⟨ret_int hv.out.symm, rfl⟩
    | succ k =>
      have e1 : (((k + 1 : Nat) : Int) - 1) = (k : Int) := by omega
      rw [e1]
      have c1 := h.cell (k := k) (by omega)
      have c2 := h'.cell (k := k) (by omega)
      by_cases he : el ss k = s
      · have he' : (el ss k == s) = true := by simpa using he
        by_cases hx : p ≤ el xs k
        · have hx' : decide (p ≤ el xs k) = true := decide_eq_true hx
          have hv : Hid (T = k) := by show _ = _; rw [← HK.out, topI_yes ⟨he, hx⟩]
          clear he
          go_wp2
          all_goals first | (go_ret; exact ⟨ret_int hv.out.symm, rfl⟩)
        · have hx' : decide (p ≤ el xs k) = false := decide_eq_false hx
          have hv : Hid (topI xs ss s p k = T) := by show _ = _; rw [← HK.out, topI_no (fun hh => hx hh.2)]
          clear he
          go_wp2
          go_round
          case rel => exact ⟨k, by omega, by go_num, hv⟩
          case measure => simp [intOf]
      · have he' : (el ss k == s) = false := by simpa using he
        have hv : Hid (topI xs ss s p k = T) := by show _ = _; rw [← HK.out, topI_no (fun hh => he hh.1)]
        go_wp2
        go_round
        case rel => exact ⟨k, by omega, by go_num, hv⟩
        case measure => simp [intOf]
theorem impl_TakeStacks_s {b off n cap b' off' n' cap' : Nat} {xs ss : List Int} {w : World} (h : Sl w b off n cap xs) (h' : Sl w b' off' n' cap' ss) :
    Calls Try.prog 58 #[.slice (some ⟨b, off, none⟩) n cap, .slice (some ⟨b', off', none⟩) n' cap'] w (FrX 3 (fun v => .tuple #[v, .bool (takeB xs ss)]) (takeR xs ss) w) := by
  obtain ⟨i0, hi, hz0, hz1, hz2⟩ := info_parts Try.infoInt
  have hs := h.small
  cases hv : vStacks xs ss
  · have hno := take_no (w := w) hv
    go_enter Try.func58, Try.ntmps58
    go_wp2_with (go_at_call 84; refine (impl_validStacks_s h h').mono ?_; rintro e w1 ⟨rfl, hb1⟩)
    go_ret2
    exact hno _ hb1
  · obtain ⟨a1, a2, a3⟩ := vStacks_iff.1 hv
    have HT : Hid (okT xs xs.length) := (vTurn_iff.1 a1).2
    have HV := mkhid hv
    obtain rfl : n' = n := by rw [h.len, h'.len] at a2; exact a2
    have HN : Hid (xs.length = n') := h.len
    have hown0 : ∀ w1 : World, w1.ownsRow w.heap.size 3 1 (.slice none 0 0) 0 ((upFrom 0 0).map (Value.int .i64)) := fun w1 => World.ownsRow_nil _ _ _ _
    clear a1 a2 a3
    go_enter Try.func58, Try.ntmps58
    go_wp2_with (go_at_call 84; refine (impl_validStacks_s h h').mono ?_; rintro e w1 ⟨rfl, hb1⟩)
    go_loopw [6, 7, 8, 15] (fun o _ _ i wr => ∃ p : Nat, p ≤ n' ∧ i = .int .i64 p ∧ Hid (frees xs ss p) ∧ wr.ownsRow w.heap.size 3 1 o p ((upFrom 0 p).map (Value.int .i64)) ∧ Below w.heap.size w wr) (fun _ _ _ i _ => n' - (intOf i).toNat)
    case atStart => exact ⟨0, Nat.zero_le _, rfl, frees_zero _ _, hown0 _, hb1⟩
    case round =>
      obtain ⟨p, hp, rfl, HF, ho, hbr⟩ := hrel
      clear hown0 hb1
      by_cases hlt : p < n'
      · obtain ⟨k, hk, e1, e2⟩ := okT_at HT.out (p := p) (by rw [HN.out]; exact hlt)
        have htf := top_free (ss := ss) HT.out (p := p) (k := k) (by rw [HN.out]; exact hlt) hk e1 e2
        rw [HN.out] at hk htf
        have hix : Calls Try.prog 67 #[.slice (some ⟨b, off, none⟩) n' cap, (.int .i64 ((p : Int)))] wr (Rs (.int .i64 ((k : Int))) wr) := e1 ▸ sIndex_s (h.below hbr)
        have hto := impl_topOf_s (s := el ss k) (p := p) (h.below hbr) (h'.below hbr)
        obtain ⟨T, hT⟩ : ∃ T, T = topI xs ss (el ss k) p n' := ⟨_, rfl⟩
        rw [← hT] at hto htf
        clear hT e1 e2
        have hcell := (h'.below hbr).cell hk
        have i1 : (0 : Int) ≤ (k : Int) := by omega
        have i2 : (k : Int) < (n' : Int) := by omega
        have hbs := hbr.size
        rcases htf with ⟨e, hf⟩ | ⟨e, hf⟩
        · have e' : (T != (k : Int)) = false := by simpa using e
          have HF2 : Hid (frees xs ss (p + 1)) := frees_succ HF.out hf
          clear e hf
          go_wp2_with (first | (go_at_call 67; refine hix.mono ?_; rintro e w1 ⟨rfl, rfl⟩) | (go_at_call 98; refine hto.mono ?_; rintro e w1 ⟨rfl, rfl⟩) | (at_builtin; refine wpList_append_own _ rfl (.tmp 32) (.tmp 34) 22 rfl w.heap.size 3 i0 (.int .i64 0) 1 8 Try.underlying22 hi hz0 hz1 hz2 rfl (by decide) _ p _ rfl (ho.alloc _) ⟨wr.heap.size, 0, none⟩ 1 1 [.int .i64 p] rfl rfl (cell_one_new _ _ _) (by intro u hu; simp at hu; subst hu; rfl) (by unfold maxLen; omega) (by omega) (by simp; omega) ?_; intro v1 w1 hown1 hgrow1 hnil1))
          have hb2 := below_append hbr ho hbs hgrow1
          have ho1 : w1.ownsRow w.heap.size 3 1 v1 (p + 1) ((upFrom 0 (p + 1)).map (Value.int .i64)) := by
            rw [← upFrom_succ0, List.map_append]; exact hown1
          clear hown1 hgrow1 hnil1 ho hbr hix hto hcell
          go_wp2
          go_roundw
          case rel => exact ⟨p + 1, by omega, by go_num, HF2, ho1, hb2⟩
          case measure => simp [intOf]; omega
        · have e' : (T != (k : Int)) = true := by simpa using e
          have hfin := take_part (w := w) HV.out (by rw [HN.out]; exact hlt) HF.out hf _ wr ho hbr
          clear e hf ho
          go_wp2_with (first | (go_at_call 67; refine hix.mono ?_; rintro e w1 ⟨rfl, rfl⟩) | (go_at_call 98; refine hto.mono ?_; rintro e w1 ⟨rfl, rfl⟩))
          go_ret2
          exact hfin
      · have hpn : p = xs.length := by rw [HN.out]; omega
        have hfin := take_all (w := w) HV.out hpn HF.out _ wr ho hbr
        clear hpn ho
        go_wp2
        go_ret2
        exact hfin
theorem spec_TakeStacks_s {b off n cap b' off' n' cap' : Nat} {xs ss : List Int} {w : World} (h : Sl w b off n cap xs) (h' : Sl w b' off' n' cap' ss) :
    Calls Try.prog 57 #[.slice (some ⟨b, off, none⟩) n cap, .slice (some ⟨b', off', none⟩) n' cap'] w (FrX 3 (fun v => .tuple #[v, .bool (takeB xs ss)]) (takeR xs ss) w) := by
  obtain ⟨i0, hi, hz0, hz1, hz2⟩ := info_parts Try.infoInt
  have hs := h.small
  cases hv : vStacks xs ss
  · have hno := take_no (w := w) hv
    go_enter Try.func57, Try.ntmps57
    go_wp2_with (go_at_call 83; refine (spec_validStacks_s h h').mono ?_; rintro e w1 ⟨rfl, hd1⟩)
    go_ret2
    exact hno _ hd1.below
  · obtain ⟨a1, a2, a3⟩ := vStacks_iff.1 hv
    have HT : Hid (okT xs xs.length) := (vTurn_iff.1 a1).2
    have HV := mkhid hv
    obtain rfl : n' = n := by rw [h.len, h'.len] at a2; exact a2
    have HN : Hid (xs.length = n') := h.len
    have hown0 : ∀ w1 : World, w.heap.size ≤ w1.heap.size → (w1.alloc (.cells #[] 3)).ownsRow w.heap.size 3 1 (.slice (some ⟨w1.heap.size, 0, none⟩) 0 0) 0 ((upFrom 0 0).map (Value.int .i64)) := fun w1 h1 => own_empty w1 w.heap.size h1
    clear a1 a2 a3
    go_enter Try.func57, Try.ntmps57
    go_wp2_with (go_at_call 83; refine (spec_validStacks_s h h').mono ?_; rintro e w1 ⟨rfl, hd1⟩; have hb1 := hd1.below)
    go_loopw [6, 7, 8, 9] (fun o i _ _ wr => ∃ p : Nat, p ≤ n' ∧ i = .int .i64 p ∧ Hid (frees xs ss p) ∧ wr.ownsRow w.heap.size 3 1 o p ((upFrom 0 p).map (Value.int .i64)) ∧ Below w.heap.size w wr) (fun _ i _ _ _ => n' - (intOf i).toNat)
    case atStart => exact ⟨0, Nat.zero_le _, rfl, frees_zero _ _, hown0 _ hb1.size, hb1.alloc hb1.size _⟩
    case round =>
      obtain ⟨p, hp, rfl, HF, ho, hbr⟩ := hrel
      clear hown0 hb1
      by_cases hlt : p < n'
      · obtain ⟨k, hk, e1, e2⟩ := okT_at HT.out (p := p) (by rw [HN.out]; exact hlt)
        rw [HN.out] at hk
        have hpl : Calls Try.prog 85 #[.slice (some ⟨b, off, none⟩) n' cap, (.int .i64 ((p : Int)))] wr (Rs (.int .i64 ((k : Int))) wr) := e1 ▸ placeIn_s (h.below hbr)
        have HE := mkhid e1
        clear e1 e2
        go_wp2_with (go_at_call 85; refine hpl.mono ?_; rintro e w1 ⟨rfl, rfl⟩)
        clear hpl
        obtain ⟨wo, hwo⟩ : ∃ wo : World, Hid (wo = wr) := ⟨_, rfl⟩
        rw [← hwo.out] at ho hbr
        go_loopw [9] (fun j wr => ∃ d : Nat, d ≤ n' - 1 - k ∧ j = .int .i64 ((k : Int) + 1 + d) ∧ Hid (∀ q, q < d → ¬ (el ss (k + 1 + q) = el ss k ∧ (p : Int) < el xs (k + 1 + q))) ∧ Drew wo wr) (fun j _ => n' - (intOf j).toNat)
        case atStart => exact ⟨0, Nat.zero_le _, by simp, fun q hq => by omega, hwo.out ▸ Drew.refl _⟩
        case round =>
          obtain ⟨d, hdd, rfl, HQ, hd2⟩ := hrel
          have hbr2 := hbr.trans (hd2.below.mono hbr.size)
          by_cases hlt2 : k + 1 + d < n'
          · have c1 := (h'.below hbr2).cell hk
            have c2 := (h'.below hbr2).cell hlt2
            have c4 := (h.below hbr2).cell hlt2
            have i1 : (0 : Int) ≤ (k : Int) := by omega
            have i2 : (k : Int) < (n' : Int) := by omega
            have i3 : (0 : Int) ≤ (k : Int) + 1 + d := by omega
            have i4 : (k : Int) + 1 + d < (n' : Int) := by omega
            have i5 : ((k : Int) + 1 + d).toNat = k + 1 + d := by omega
            by_cases he : el ss (k + 1 + d) = el ss k
            · have he' : (el ss (k + 1 + d) == el ss k) = true := by simpa using he
              by_cases hx : (p : Int) < el xs (k + 1 + d)
              · have hx' : decide ((p : Int) < el xs (k + 1 + d)) = true := decide_eq_true hx
                have hnf : Hid (¬ free xs ss p) := fun hf => hf k HE.out (k + 1 + d) (by omega) (by rw [HN.out]; exact hlt2) ⟨he, hx⟩
                have hfin := fun (wz : World) (hdz : Drew wo wz) => take_part (w := w) HV.out (by rw [HN.out]; exact hlt) HF.out hnf.out _ wz (own_below ho hdz.below) (hbr.trans (hdz.below.mono hbr.size))
                clear he
                go_wp2_with fail
                go_quiet (fail)
                go_wp2
                go_ret2
                exact hfin _ (by repeat (first | exact Drew.refl _ | assumption | refine Drew.drewN ?_ _ | refine Drew.drew ?_))
              · have hx' : decide ((p : Int) < el xs (k + 1 + d)) = false := decide_eq_false hx
                have HQ2 : Hid (∀ q, q < d + 1 → ¬ (el ss (k + 1 + q) = el ss k ∧ (p : Int) < el xs (k + 1 + q))) := fun q hq => by
                  by_cases e : q = d
                  · subst e; exact fun hh => hx hh.2
                  · exact HQ.out q (by omega)
                clear he
                go_wp2_with fail
                go_quiet (fail)
                go_wp2
                go_roundw
                case rel => exact ⟨d + 1, by omega, by go_num, HQ2, (by repeat (first | exact Drew.refl _ | assumption | refine Drew.drewN ?_ _ | refine Drew.drew ?_))⟩
                case measure => simp [intOf]; omega
            · have he' : (el ss (k + 1 + d) == el ss k) = false := by simpa using he
              have HQ2 : Hid (∀ q, q < d + 1 → ¬ (el ss (k + 1 + q) = el ss k ∧ (p : Int) < el xs (k + 1 + q))) := fun q hq => by
                by_cases e : q = d
                · subst e; exact fun hh => he hh.1
                · exact HQ.out q (by omega)
              go_wp2_with fail
              go_quiet (fail)
              go_wp2
              go_roundw
              case rel => exact ⟨d + 1, by omega, by go_num, HQ2, (by repeat (first | exact Drew.refl _ | assumption | refine Drew.drewN ?_ _ | refine Drew.drew ?_))⟩
              case measure => simp [intOf]; omega
          · have hf : Hid (free xs ss p) := fun k' hk' j hj1 hj2 => by
              have he := HE.out
              obtain rfl : k = k' := by rw [he] at hk'; omega
              have := HQ.out (j - (k + 1)) (by rw [HN.out] at hj2; omega)
              rwa [show k + 1 + (j - (k + 1)) = j by omega] at this
            have HF2 : Hid (frees xs ss (p + 1)) := frees_succ HF.out hf.out
            have ho2 := own_below ho hd2.below
            have hbs := hbr2.size
            go_wp2_with (at_builtin; refine wpList_append_own _ rfl (.tmp 50) (.tmp 52) 22 rfl w.heap.size 3 i0 (.int .i64 0) 1 8 Try.underlying22 hi hz0 hz1 hz2 rfl (by decide) _ p _ rfl (ho2.alloc _) ⟨wr.heap.size, 0, none⟩ 1 1 [.int .i64 p] rfl rfl (cell_one_new _ _ _) (by intro u hu; simp at hu; subst hu; rfl) (by unfold maxLen; omega) (by omega) (by simp; omega) ?_; intro v1 w1 hown1 hgrow1 hnil1)
            have hb2 := below_append hbr2 ho2 hbs hgrow1
            have ho1 : w1.ownsRow w.heap.size 3 1 v1 (p + 1) ((upFrom 0 (p + 1)).map (Value.int .i64)) := by
              rw [← upFrom_succ0, List.map_append]; exact hown1
            clear hown1 hgrow1 hnil1 ho hbr hbr2 ho2 hd2
            go_wp2
            go_roundw
            case rel => exact ⟨p + 1, by omega, by go_num, HF2, ho1, hb2⟩
            case measure => simp [intOf]; omega
      · have hpn : p = xs.length := by rw [HN.out]; omega
        have hfin := take_all (w := w) HV.out hpn HF.out _ wr ho hbr
        clear hpn ho
        go_wp2
        go_ret2
        exact hfin

set_option maxHeartbeats 1000000 in
theorem FnExactTakeStacks_walk (v0 : Value) (zs0 : List Int) (v1 : Value) (zs1 : List Int) (w : World) (hv0 : ISl w v0 zs0) (hv1 : ISl w v1 zs1) : Calls Try.prog 18 #[v0, v1] w (Rt (.bool true) w) := by
  have hv0' := hv0
  obtain ⟨p0, cap0, rfl, _⟩ := hv0'
  have hv1' := hv1
  obtain ⟨p1, cap1, rfl, _⟩ := hv1'
  by_cases hl0 : zs0.length ≤ 1048576
  · have ml0 : zs0.length ≤ maxLen := by unfold maxLen; omega
    by_cases hl1 : zs1.length ≤ 1048576
    · have ml1 : zs1.length ≤ maxLen := by unfold maxLen; omega
      obtain ⟨RS, hRS⟩ : ∃ RS, RS = takeR zs0 zs1 := ⟨_, rfl⟩
      have hr : RS.length ≤ 1048576 := by rw [hRS]; exact takeR_short hl0
      have hB0 : Below w.heap.size w w := Below.refl _ _
      go_enter Try.func18, Try.ntmps18
      have HRS := mkhid hRS
      clear hRS
      go_wp2_with fail
      refine (toIntS_c _ zs0 _ (hv0.below hB0) hl0).mono ?_
      rintro e w1 ⟨g1, rfl, ho1, hb1⟩
      have hB1 := hB0.trans (hb1.mono hB0.size)
      have hz1 := hb1.size
      have s0 := ho1.sl hl0 ml0
      clear ho1
      clear hB0 hb1
      go_wp2_with fail
      refine (toIntS_c _ zs1 _ (hv1.below hB1) hl1).mono ?_
      rintro e w2 ⟨g2, rfl, ho2, hb2⟩
      have hB2 := hB1.trans (hb2.mono hB1.size)
      have hz2 := hb2.size
      replace s0 := s0.below hb2
      have s1 := ho2.sl hl1 ml1
      clear ho2
      clear hB1 hb2
      go_wp2_with fail
      refine (spec_TakeStacks_s s0 s1).mono ?_
      rintro e w3 ⟨vW, rfl, OW, hb3⟩
      have hB3 := hB2.trans (hb3.mono hB2.size)
      have hz3 := hb3.size
      replace s0 := s0.below hb3
      replace s1 := s1.below hb3
      have OW_c := OW
      rw [← HRS.out] at OW OW_c
      clear hB2 hb3
      go_wp2_with fail
      clear s0
      clear s1
      refine (toIntS_c _ zs0 _ (hv0.below hB3) hl0).mono ?_
      rintro e w4 ⟨g4, rfl, ho4, hb4⟩
      have hB4 := hB3.trans (hb4.mono hB3.size)
      have hz4 := hb4.size
      replace OW := OW.below hb4
      have s0 := ho4.sl hl0 ml0
      have OX0 := ho4
      have OX0_c := ho4
      clear ho4
      clear hB3 hb4
      go_wp2_with fail
      refine (toIntS_c _ zs1 _ (hv1.below hB4) hl1).mono ?_
      rintro e w5 ⟨g5, rfl, ho5, hb5⟩
      have hB5 := hB4.trans (hb5.mono hB4.size)
      have hz5 := hb5.size
      replace OW := OW.below hb5
      replace s0 := s0.below hb5
      replace OX0 := OX0.below hb5
      have s1 := ho5.sl hl1 ml1
      have OX1 := ho5
      have OX1_c := ho5
      clear ho5
      clear hB4 hb5
      go_wp2_with fail
      refine (impl_TakeStacks_s s0 s1).mono ?_
      rintro e w6 ⟨vG, rfl, OG, hb6⟩
      have hB6 := hB5.trans (hb6.mono hB5.size)
      have hz6 := hb6.size
      replace OW := OW.below hb6
      replace s0 := s0.below hb6
      replace OX0 := OX0.below hb6
      replace s1 := s1.below hb6
      replace OX1 := OX1.below hb6
      have OG_c := OG
      rw [← HRS.out] at OG OG_c
      clear hB5 hb6
      go_wp2_with fail
      have d_WX0 := own_apart OW_c OX0_c (by omega)
      have d_XG0 := own_apart OX0_c OG_c (by omega)
      have d_WX1 := own_apart OW_c OX1_c (by omega)
      have d_XG1 := own_apart OX1_c OG_c (by omega)
      have d_XX0_1 := own_apart OX0_c OX1_c (by omega)
      have d_WG := own_apart OW_c OG_c (by omega)
      clear OW_c OG_c OX0_c OX1_c
      refine (rd_rt (eqIntS_c _ _ RS RS _ OG.isl OW.isl hr hr)).mono ?_
      rintro e w7 ⟨rfl, hb7⟩
      have hB7 := hB6.trans (hb7.mono hB6.size)
      have hz7 := hb7.size
      replace OW := OW.below hb7
      replace s0 := s0.below hb7
      replace OX0 := OX0.below hb7
      replace s1 := s1.below hb7
      replace OX1 := OX1.below hb7
      replace OG := OG.below hb7
      clear hB6 hb7
      go_wp2_with fail
      refine (toIntS_c _ zs0 _ (hv0.below hB7) hl0).mono ?_
      rintro e w8 ⟨g8, rfl, ho8, hb8⟩
      have hB8 := hB7.trans (hb8.mono hB7.size)
      have hz8 := hb8.size
      replace OW := OW.below hb8
      replace s0 := s0.below hb8
      replace OX0 := OX0.below hb8
      replace s1 := s1.below hb8
      replace OX1 := OX1.below hb8
      replace OG := OG.below hb8
      have t0 := ho8.sl hl0 ml0
      clear ho8
      clear hB7 hb8
      go_wp2_with fail
      refine (rd_rt (eqIntS_c _ _ zs0 zs0 _ s0.isl t0.isl hl0 hl0)).mono ?_
      rintro e w9 ⟨rfl, hb9⟩
      have hB9 := hB8.trans (hb9.mono hB8.size)
      have hz9 := hb9.size
      replace OW := OW.below hb9
      replace s0 := s0.below hb9
      replace OX0 := OX0.below hb9
      replace s1 := s1.below hb9
      replace OX1 := OX1.below hb9
      replace OG := OG.below hb9
      replace t0 := t0.below hb9
      clear hB8 hb9
      go_wp2_with fail
      refine (toIntS_c _ zs1 _ (hv1.below hB9) hl1).mono ?_
      rintro e w10 ⟨g10, rfl, ho10, hb10⟩
      have hB10 := hB9.trans (hb10.mono hB9.size)
      have hz10 := hb10.size
      replace OW := OW.below hb10
      replace s0 := s0.below hb10
      replace OX0 := OX0.below hb10
      replace s1 := s1.below hb10
      replace OX1 := OX1.below hb10
      replace OG := OG.below hb10
      replace t0 := t0.below hb10
      have t1 := ho10.sl hl1 ml1
      clear ho10
      clear hB9 hb10
      go_wp2_with fail
      refine (rd_rt (eqIntS_c _ _ zs1 zs1 _ s1.isl t1.isl hl1 hl1)).mono ?_
      rintro e w11 ⟨rfl, hb11⟩
      have hB11 := hB10.trans (hb11.mono hB10.size)
      have hz11 := hb11.size
      replace OW := OW.below hb11
      replace s0 := s0.below hb11
      replace OX0 := OX0.below hb11
      replace s1 := s1.below hb11
      replace OX1 := OX1.below hb11
      replace OG := OG.below hb11
      replace t0 := t0.below hb11
      replace t1 := t1.below hb11
      clear hB10 hb11
      go_wp2_with fail
      clear s0 t0
      clear s1 t1
      refine (markIntS_c _ _ _ (1) _ OX0 hl0 ⟨by omega, by omega⟩).mono ?_
      rintro e w12 ⟨rfl, N12, gr12⟩
      have hb12 := Own.below_of (C := w.heap.size) OX0 gr12 (by omega) hB11.size
      replace OW := OW.kept gr12 d_WX0
      replace OG := OG.kept gr12 (apart_symm d_XG0)
      replace OX1 := OX1.kept gr12 (apart_symm d_XX0_1)
      have hz12 := gr12.size
      have hB12 := hB11.trans hb12
      replace OX0 := N12
      clear N12 gr12 hB11 hb12
      go_wp2_with fail
      refine (markIntS_c _ _ _ (1 + zs0.length) _ OX1 hl1 ⟨by omega, by omega⟩).mono ?_
      rintro e w13 ⟨rfl, N13, gr13⟩
      have hb13 := Own.below_of (C := w.heap.size) OX1 gr13 (by omega) hB12.size
      replace OW := OW.kept gr13 d_WX1
      replace OG := OG.kept gr13 (apart_symm d_XG1)
      replace OX0 := OX0.kept gr13 d_XX0_1
      have hz13 := gr13.size
      have hB13 := hB12.trans hb13
      replace OX1 := N13
      clear N13 gr13 hB12 hb13
      go_wp2_with fail
      refine (rd_rt (eqIntS_c _ _ RS RS _ OG.isl OW.isl hr hr)).mono ?_
      rintro e w14 ⟨rfl, hb14⟩
      have hB14 := hB13.trans (hb14.mono hB13.size)
      have hz14 := hb14.size
      replace OW := OW.below hb14
      replace OX0 := OX0.below hb14
      replace OX1 := OX1.below hb14
      replace OG := OG.below hb14
      clear hB13 hb14
      go_wp2_with fail
      clear OX0
      clear OX1
      refine (markIntS_c _ _ _ (1) _ OG hr ⟨by omega, by omega⟩).mono ?_
      rintro e w15 ⟨rfl, N15, gr15⟩
      have hb15 := Own.below_of (C := w.heap.size) OG gr15 (by omega) hB14.size
      replace OW := OW.kept gr15 d_WG
      have hz15 := gr15.size
      have hB15 := hB14.trans hb15
      replace OG := N15
      clear N15 gr15 hB14 hb15
      go_wp2_with fail
      refine (heldIntS_c _ _ 1 RS.length _ OG hr ⟨by omega, by omega⟩).mono ?_
      rintro e _ ⟨rfl, rfl⟩
      go_wp2_with fail
      refine (toIntS_c _ zs0 _ (hv0.below hB15) hl0).mono ?_
      rintro e w16 ⟨g16, rfl, ho16, hb16⟩
      have hB16 := hB15.trans (hb16.mono hB15.size)
      have hz16 := hb16.size
      replace OW := OW.below hb16
      replace OG := OG.below hb16
      have s0 := ho16.sl hl0 ml0
      clear ho16
      clear hB15 hb16
      go_wp2_with fail
      refine (toIntS_c _ zs1 _ (hv1.below hB16) hl1).mono ?_
      rintro e w17 ⟨g17, rfl, ho17, hb17⟩
      have hB17 := hB16.trans (hb17.mono hB16.size)
      have hz17 := hb17.size
      replace OW := OW.below hb17
      replace OG := OG.below hb17
      replace s0 := s0.below hb17
      have s1 := ho17.sl hl1 ml1
      clear ho17
      clear hB16 hb17
      go_wp2_with fail
      refine (impl_TakeStacks_s s0 s1).mono ?_
      rintro e w18 ⟨vH, rfl, OH, hb18⟩
      have hB18 := hB17.trans (hb18.mono hB17.size)
      have hz18 := hb18.size
      replace OW := OW.below hb18
      replace OG := OG.below hb18
      replace s0 := s0.below hb18
      replace s1 := s1.below hb18
      rw [← HRS.out] at OH
      clear hB17 hb18
      go_wp2_with fail
      refine (rd_rt (eqIntS_c _ _ RS RS _ OH.isl OW.isl hr hr)).mono ?_
      rintro e w19 ⟨rfl, hb19⟩
      have hB19 := hB18.trans (hb19.mono hB18.size)
      have hz19 := hb19.size
      replace OW := OW.below hb19
      replace OG := OG.below hb19
      replace s0 := s0.below hb19
      replace s1 := s1.below hb19
      replace OH := OH.below hb19
      clear hB18 hb19
      go_wp2_with fail
      refine (heldIntS_c _ _ 1 RS.length _ OG hr ⟨by omega, by omega⟩).mono ?_
      rintro e _ ⟨rfl, rfl⟩
      go_wp2
      go_ret
      exact ⟨rfl, hB19⟩
    · have hl1' : (1048576 : Int) < (zs1.length : Int) := by omega
      go_enter Try.func18, Try.ntmps18
      go_wp2
      all_goals (go_ret; exact ⟨rfl, Below.refl _ _⟩)
  · have hl0' : (1048576 : Int) < (zs0.length : Int) := by omega
    go_enter Try.func18, Try.ntmps18
    go_wp2
    all_goals (go_ret; exact ⟨rfl, Below.refl _ _⟩)
end Go.Proofs.Ytglglgfiifjejaa
