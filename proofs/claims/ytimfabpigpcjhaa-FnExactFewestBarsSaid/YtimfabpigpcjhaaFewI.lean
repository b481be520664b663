/- FewestBars of impl (a closure handed on); no statement is proved here. -/
import Derived.Test.YtimfabpigpcjhaaPlFew
import Derived.Test.YtimfabpigpcjhaaSwap2
import Derived.Test.YtimfabpigpcjhaaCls
namespace Go.Proofs.Ytimfabpigpcjhaa
open Go.ChangeShapes Go.WideShapes Go.ChangeAt Go.RowKit
set_option linter.unusedVariables false
set_option linter.unusedSimpArgs false

theorem few1_c {b off n cap : Nat} {zs : List Int} {w : World} (h : Sl w b off n cap zs) (hn : n ≤ 7) (ho : okW zs n) (s : Nat) (hs : s < 128) (bar : Int) (g1 g2 : Nat)
    (c1 : w.cell? ⟨g1, 0, none⟩ = some (.slice (some ⟨b, off, none⟩) n cap)) (c2 : w.cell? ⟨g2, 0, none⟩ = some (.int .i64 bar)) :
    Calls Try.prog 62 #[(.int .i64 ((s : Int))), .pointer (some ⟨g1, 0, none⟩), .pointer (some ⟨g2, 0, none⟩)] w (Rt (.bool (ft zs n bar s)) w) := by
  have hz1 := fun z : Bw w => z.cell c1
  have hz2 := fun z : Bw w => z.cell c2
  have CS := fun z : Bw w => rs_rt (impl_sumIn_s (h.below z.h) hn ho s hs)
  have hf : Hid (decide (bsS zs s n ≤ bar) = ft zs n bar s) := rfl
  go_enter Try.func62, Try.ntmps62
  go_wp2_with fail
  refine region_bw (W := w) (by kernel_rfl) (by kernel_rfl) (Below.refl _ _) ?_
  repeat (go_big_quiet_step ((go_at_call 63; exact calls_bw (CS _))))
  refine wpQuiet_nil ?_
  rintro _ ⟨⟨wz, hbwz⟩, rfl⟩
  (try dsimp only)
  go_wp2_with fail
  go_ret
  exact ⟨ret_bool hf.out, hbwz⟩
theorem tab_congr {f : Nat → Bool} {T U : Nat → Int} {N : Nat} (h : Tab f T N) (hN : 0 < N) (e : ∀ k, k < N → U k = T k) : Tab f U N :=
  ⟨by rw [e 0 hN]; exact h.1, fun s h0 hs => by rw [e s hs]; exact isMin_congr (h.2 s h0 hs) (fun k hk => e k (by omega))⟩
theorem best_congr {d : Int} {f : Nat → Bool} {T U : Nat → Int} {s c : Nat} {v : Int} (h : Best d f T s c v) (e : ∀ k, k < s → U k = T k) : Best d f U s c v := by
  rcases h with h | ⟨⟨o, a, b, q, r, x⟩, m⟩
  · exact .inl h
  · exact .inr ⟨⟨o, a, b, q, r, by rw [e _ (by omega)]; exact x⟩, fun o a b q r => by rw [e _ (by omega)]; exact m o a b q r⟩
theorem set_small {Y : List Int} {s : Nat} {x : Int} (h : s < Y.length) (k : Nat) (hk : k < s) : el (Y.set s x) k = el Y k := by rw [el_set h, if_neg (by omega)]
theorem set_at {Y : List Int} {s : Nat} {x : Int} (h : s < Y.length) : el (Y.set s x) s = x := by rw [el_set h, if_pos rfl]
theorem next_gap {s c : Nat} (hs : s < 128) (hc : c ≤ s) (h : sub c s = true) : Gap s c ((c - 1) &&& s) := fun o h1 h2 => by
  cases hh : sub o s
  · rfl
  · have := sub_next2 s hs c (by omega) h o h2 hh; omega
theorem stepI_take {f : Nat → Bool} {Y : List Int} {s c : Nat} (hs : s < 128) (hl : s < Y.length) (hc : c ≤ s) (h0 : 0 < c) (hsub : sub c s = true) (hb : Best (-1) f (el Y) s c (el Y s)) (hf : f c = true)
    (hp : ∀ k, k < s → 0 ≤ el Y k) (hv : el Y s < 0 ∨ el Y (s - c) + 1 < el Y s) : Best (-1) f (el (Y.set s (el Y (s - c) + 1))) s ((c - 1) &&& s) (el (Y.set s (el Y (s - c) + 1)) s) := by
  rw [set_at hl, Int.add_comm]
  refine best_congr (best_take hb (next_gap hs hc hsub) (sub_next1 s hs c (by omega) hsub h0).2 hc hsub hf ?_) (fun k hk => set_small hl k hk)
  rcases hv with hv | hv
  · rcases hb with ⟨_, h⟩ | ⟨⟨o, a, b, q, r, x⟩, m⟩
    · exact .inl h
    · have := hp (s - o) (by omega); omega
  · exact .inr (by omega)
theorem wrap_pow : ∀ n : Nat, n < 8 → wrap64 (2 ^ n) = ((2 ^ n : Nat) : Int) := by decide +kernel
theorem wrap_pow1 : ∀ n : Nat, n < 8 → wrap64 (wrap64 (2 ^ n) - 1) = ((2 ^ n - 1 : Nat) : Int) := by decide +kernel
set_option maxHeartbeats 2000000 in
theorem impl_fewestGroups_s {b off n cap : Nat} {zs : List Int} {w : World} (h : Sl w b off n cap zs) (hn : n ≤ 7) (ho : okW zs n) (bar : Int) (g1 g2 : Nat) (hob : okBar zs bar n)
    (c1 : w.cell? ⟨g1, 0, none⟩ = some (.slice (some ⟨b, off, none⟩) n cap)) (c2 : w.cell? ⟨g2, 0, none⟩ = some (.int .i64 bar)) (l1 : g1 < w.heap.size) (l2 : g2 < w.heap.size) :
    Calls Try.prog 61 #[(.int .i64 ((n : Int))), .func (.func 62) #[] #[.pointer (some ⟨g1, 0, none⟩), .pointer (some ⟨g2, 0, none⟩)]] w (Rt (.int .i64 (few (ft zs n bar) (2 ^ n))) w) := by
  have hO := mkhid (ft_ones hn hob)
  have hw1 := wrap_pow n (by omega)
  have hA := wrap_pow1 n (by omega)
  obtain ⟨q1, q2⟩ := pow_le7 n (by omega)
  have hpc := fun {T : Nat → Int} {M : Nat} (hT : Tab (ft zs n bar) T M) (hM : M ≤ 2 ^ n) => tab_le hT hO.out hn hM
  have hend := fun {d : Int} {T : Nat → Int} {s : Nat} {v : Int} (hb : Best d (ft zs n bar) T s 0 v) (hs : s < 2 ^ n) (h0 : 0 < s) => best_end hb hO.out hn hs h0
  have CF := fun (s : Nat) (hs : s < 128) (w' : World) (hb : Below w.heap.size w w') => few1_c (h.below hb) hn ho s hs bar g1 g2 ((hb.cell l1).trans c1) ((hb.cell l2).trans c2)
  obtain ⟨N, hN⟩ : ∃ N, N = 2 ^ n := ⟨_, rfl⟩
  obtain ⟨f, hf⟩ : ∃ f, f = ft zs n bar := ⟨_, rfl⟩
  simp only [← hN, ← hf] at hw1 hA q1 q2 hpc hend CF hO ⊢
  have hml : N ≤ maxLen := by unfold maxLen; omega
  have hmk := run_make_row' (P := Try.prog) 45 3 (.int .i64 0) 8 Try.underlying45 Try.infoInt rfl .i64 .i64 N (by omega) hml
  have O0 := zeros_own w N hml
  have hb0 : Below w.heap.size w (w.alloc (.cells (madeCells #[Value.int .i64 0] N) 3)) := (Below.refl _ _).alloc (Nat.le_refl _) _
  have HF := mkhid CF
  have HP : Hid (∀ (T : Nat → Int) (M : Nat), Tab f T M → M ≤ N → ∀ s, s < M → 0 ≤ T s ∧ T s ≤ n) := fun T M hT hM s hs => hpc hT hM s hs
  have HE : Hid (∀ (d : Int) (T : Nat → Int) (s : Nat) (v : Int), Best d f T s 0 v → s < N → 0 < s → IsMin f T s v) := fun d T s v a b c => hend a b c
  have hT0 : Hid (Tab f (el (List.replicate N 0)) 1) := ⟨el_zeros (by omega), fun s a b => by omega⟩
  clear hpc hend CF hf hN hO hob
  go_enter Try.func61, Try.ntmps61
  go_wp2_with fail
  rw [hw1]
  go_loopw [6] (fun s wr => ∃ k : Nat, ∃ X : List Int, 1 ≤ k ∧ k ≤ N ∧ s = .int .i64 k ∧ Hid (X.length = N) ∧ Own wr w.heap.size 3 (.slice (some ⟨w.heap.size, 0, none⟩) N N) X ∧ Below w.heap.size w wr ∧ Hid (Tab f (el X) k)) (fun s _ => N - (intOf s).toNat)
  case atStart => exact ⟨1, _, Nat.le_refl _, q2, rfl, by simp [mkhid], O0, hb0, hT0⟩
  case round =>
    obtain ⟨s, X, hs1, hs, rfl, HL, ho, hbr, HT⟩ := hrel
    clear O0 hb0 hT0
    by_cases hlt : s < N
    · have ff := (own_facts ho s).2
      have fs := (own_facts ho s).1 hlt
      have P1 := own_set ho s (-1)
      have hb3 := hbr.setCell (p := ⟨w.heap.size, s, none⟩) (Nat.le_refl _) (.int .i64 (-1))
      have k1 : (0 : Int) ≤ (s : Int) := by omega
      have k2 : (s : Int) < (N : Int) := by omega
      have T1 := HT.out
      have hTs : Hid (Tab f (el (X.set s (-1))) s) := by
        refine ⟨by rw [el_set (by rw [HL.out]; exact hlt), if_neg (by omega)]; exact T1.1, fun k h1 h2 => ?_⟩
        have hh := T1.2 k h1 h2
        rw [el_set (by rw [HL.out]; exact hlt), if_neg (by omega)]
        exact isMin_congr hh (fun j hj => by rw [el_set (by rw [HL.out]; exact hlt), if_neg (by omega)])
      have hL2 : Hid ((X.set s (-1)).length = N) := by rw [List.length_set]; exact HL.out
      have hB0 : Hid (Best (-1) f (el (X.set s (-1))) s s (-1)) := best_top _ _ _ _
      have hv0 : Hid (el (X.set s (-1)) s = -1) := by
        show _ = _
        rw [el_set (by rw [HL.out]; exact hlt), if_pos rfl]
      clear T1
      go_wp2_with fail
      rw [hw1]
      go_loopw [7] (fun g wr => ∃ c : Nat, ∃ Y : List Int, c ≤ s ∧ g = .int .i64 c ∧ Hid (sub c s = true) ∧ Hid (Y.length = N) ∧ Own wr w.heap.size 3 (.slice (some ⟨w.heap.size, 0, none⟩) N N) Y ∧ Below w.heap.size w wr ∧ Hid (Tab f (el Y) s) ∧ Hid (Best (-1) f (el Y) s c (el Y s))) (fun g _ => (intOf g).toNat)
      case atStart => exact ⟨s, _, Nat.le_refl _, rfl, sub_self s (by omega), hL2, P1, hb3, hTs, by show Best _ _ _ _ _ _; rw [hv0.out]; exact hB0.out⟩
      case round =>
        obtain ⟨c, Y, hcs, rfl, HS, HL2, ho2, hbr2, HT2, HB⟩ := hrel
        clear P1 hb3 hTs hL2 hB0 hv0 HT HL ho hbr ff fs
        by_cases hc0 : 0 < c
        · have hrest := HP.out _ _ HT2.out hs (s - c) (by omega)
          have hpos : Hid (∀ k, k < s → 0 ≤ el Y k) := fun k hk => (HP.out _ _ HT2.out hs k hk).1
          have f1 := (own_facts ho2 (s - c)).1 (by omega)
          have hand := (sub_diff s (by omega) c (by omega) HS.out).2
          have hnx := and_next s (by omega) c (by omega) hc0
          have hlt' := (sub_next1 s (by omega) c (by omega) HS.out hc0)
          have hgap := mkhid (next_gap (by omega) hcs HS.out)
          have CF := HF.out c (by omega) _ hbr2
          have d1 : decide (el Y (s - c) < 0) = false := decide_eq_false (by omega)
          obtain ⟨c', hc'⟩ : ∃ c', c' = ((c - 1) &&& s) := ⟨_, rfl⟩
          have hsub' := mkhid (hc' ▸ hlt'.1)
          have hcc : c' < c := hc' ▸ hlt'.2
          rw [← hc'] at hnx hgap
          have HC := mkhid hc'
          have ER : el Y (s - c) + 1 ≤ 8 := by omega
          have ER0 : 0 ≤ el Y (s - c) := by omega
          clear hlt' hc' hrest
          cases hfc : f c
          · rw [hfc] at CF
            have hB3 : Hid (Best (-1) f (el Y) s c' (el Y s)) := best_skip HB.out hgap.out hcc (fun _ => hfc)
            go_wp2_with (go_at_call 62; refine CF.mono ?_; rintro e w1 ⟨rfl, hb1⟩)
            have ho3 := ho2.below hb1
            have hbr3 := hbr2.trans (hb1.mono hbr2.size)
            go_roundw
            case rel => exact ⟨c', Y, by omega, by go_num, hsub', HL2, ho3, hbr3, HT2, hB3⟩
            case measure => simp [intOf]; omega
          · rw [hfc] at CF
            have AFT : ∀ w1, Below wr.heap.size wr w1 → w1.cell? ⟨w.heap.size, s, none⟩ = some (.int .i64 (el Y s)) := fun w1 hb1 => (own_facts (ho2.below hb1) s).1 hlt
            have AFF : ∀ w1, Below wr.heap.size wr w1 → w1.frozen? ⟨w.heap.size, s, none⟩ = false := fun w1 hb1 => (own_facts (ho2.below hb1) s).2
            have hsY : s < Y.length := by rw [HL2.out]; exact hlt
            have HL3 : Hid ((Y.set s (el Y (s - c) + 1)).length = N) := by show _ = _; rw [List.length_set]; exact HL2.out
            have HT3 : Hid (Tab f (el (Y.set s (el Y (s - c) + 1))) s) := tab_congr HT2.out (by omega) (fun k hk => set_small hsY k hk)
            by_cases hv : el Y s < 0
            · have d2 : decide (el Y s < 0) = true := decide_eq_true hv
              have HB3 := mkhid (stepI_take (by omega) hsY hcs hc0 HS.out HB.out hfc hpos.out (.inl hv))
              rw [← HC.out] at HB3
              go_wp2_with (go_at_call 62; refine CF.mono ?_; rintro e w1 ⟨rfl, hb1⟩; have a1 := AFT _ hb1; have a2 := AFF _ hb1)
              have ho3 := ho2.below hb1
              have hbr3 := hbr2.trans (hb1.mono hbr2.size)
              have P3 := own_set ho3 s (el Y (s - c) + 1)
              have hbr4 := hbr3.setCell (p := ⟨w.heap.size, s, none⟩) (Nat.le_refl _) (.int .i64 (el Y (s - c) + 1))
              go_roundw
              case rel => exact ⟨c', _, by omega, by go_num, hsub', HL3, P3, hbr4, HT3, HB3⟩
              case measure => simp [intOf]; omega
            · have d2 : decide (el Y s < 0) = false := decide_eq_false hv
              by_cases hv2 : el Y (s - c) + 1 < el Y s
              · have d3 : decide (el Y (s - c) + 1 < el Y s) = true := decide_eq_true hv2
                have HB3 := mkhid (stepI_take (by omega) hsY hcs hc0 HS.out HB.out hfc hpos.out (.inr hv2))
                rw [← HC.out] at HB3
                go_wp2_with (go_at_call 62; refine CF.mono ?_; rintro e w1 ⟨rfl, hb1⟩; have a1 := AFT _ hb1; have a2 := AFF _ hb1)
                have ho3 := ho2.below hb1
                have hbr3 := hbr2.trans (hb1.mono hbr2.size)
                have P3 := own_set ho3 s (el Y (s - c) + 1)
                have hbr4 := hbr3.setCell (p := ⟨w.heap.size, s, none⟩) (Nat.le_refl _) (.int .i64 (el Y (s - c) + 1))
                go_roundw
                case rel => exact ⟨c', _, by omega, by go_num, hsub', HL3, P3, hbr4, HT3, HB3⟩
                case measure => simp [intOf]; omega
              · have d3 : decide (el Y (s - c) + 1 < el Y s) = false := decide_eq_false hv2
                have HB3 : Hid (Best (-1) f (el Y) s c' (el Y s)) := best_keep HB.out hgap.out hcc (by omega) (by omega)
                go_wp2_with (go_at_call 62; refine CF.mono ?_; rintro e w1 ⟨rfl, hb1⟩; have a1 := AFT _ hb1; have a2 := AFF _ hb1)
                have ho3 := ho2.below hb1
                have hbr3 := hbr2.trans (hb1.mono hbr2.size)
                go_roundw
                case rel => exact ⟨c', Y, by omega, by go_num, hsub', HL2, ho3, hbr3, HT2, HB3⟩
                case measure => simp [intOf]; omega
        · obtain rfl : c = 0 := by omega
          have hfin : Hid (Tab f (el Y) (s + 1)) := tab_succ HT2.out (by omega) (fun _ _ => rfl) (HE.out _ _ _ _ HB.out hlt (by omega))
          go_wp2_with fail
          go_roundw
          case rel => exact ⟨s + 1, Y, by omega, by omega, by go_num, HL2, ho2, hbr2, hfin⟩
          case measure => simp [intOf]; omega
    · obtain rfl : s = N := by omega
      have f1 := (own_facts ho (s - 1)).1 (by omega)
      have hv := few_eq HT.out (by omega)
      go_wp2_with fail
      go_ret
      exact ⟨rfl, hbr⟩
end Go.Proofs.Ytimfabpigpcjhaa
