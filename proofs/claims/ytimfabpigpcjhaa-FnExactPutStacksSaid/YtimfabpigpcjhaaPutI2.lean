/- PutStacks of impl, and the walk of the exact law on PutStacks; no statement is proved here. -/
import Derived.Test.YtimfabpigpcjhaaPutI
namespace Go.Proofs.Ytimfabpigpcjhaa
open Go.ChangeShapes Go.WideShapes Go.ChangeAt Go.RowKit
set_option linter.unusedVariables false
set_option linter.unusedSimpArgs false

/-- an append of one element to nil -/
theorem nil_app {wq w1 : World} {B : Nat} {E : TypeId} {v1 : Value} {x : Int} {o : Obj} (hB : B ≤ wq.heap.size)
    (h1 : w1.ownsRow B E 1 v1 (([] : List Int).length + 1) (([] : List Int).map (Value.int .i64) ++ [.int .i64 x])) {r : Option Nat} (h2 : (wq.alloc o).grownBy w1 r) (h4 : v1.ownBlock = r ∨ v1.ownBlock = some (wq.alloc o).heap.size) (hr : r = none) :
    ∃ g1 c1, v1 = .slice (some ⟨g1, 0, none⟩) 1 c1 ∧ Own w1 B E (.slice (some ⟨g1, 0, none⟩) 1 c1) [x] ∧ wq.heap.size < g1 ∧ g1 < w1.heap.size ∧ Below B wq w1 := by
  subst hr
  have ha : Own w1 B E v1 ([] ++ [x]) := own_app h1
  obtain ⟨g1, c1, rfl⟩ := own_app_form ha (m := 0) rfl
  refine ⟨g1, c1, rfl, ha, ?_, (Own.at ha).2.2.1, ?_⟩
  · rcases h4 with h4 | h4
    · simp [Value.ownBlock] at h4
    · injection h4 with h4; have h4' : g1 = (wq.alloc o).heap.size := h4; rw [h4']; simp
  · exact ((Below.refl B wq).alloc hB o).grown h2 (by first | omega | (simp; omega) | simp) (fun k hk => by cases hk)
set_option maxHeartbeats 3200000 in
theorem impl_PutStacks_s {b off n cap : Nat} {zs : List Int} {w : World} (h : Sl w b off n cap zs) :
    Calls Try.prog 26 #[.slice (some ⟨b, off, none⟩) n cap] w (FrX 3 (fun v => v) (putsR zs) w) := by
  obtain ⟨i0, hi, hz0, hz1, hz2⟩ := info_parts Try.infoInt
  have hmf : ∀ (fn : Fn) (first cap : Array Value) (w : World), (Instr.makeFunc fn first cap).run Try.prog w = .ok (.func fn first cap) w := fun _ _ _ _ => rfl
  have hs := h.small
  have C1 := impl_ValidTurn_s h
  cases hv : vTurn zs
  · have e : Hid (putsR zs = []) := by show _ = _; unfold putsR; rw [hv]; rfl
    rw [hv] at C1
    go_enter Try.func26, Try.ntmps26
    go_wp2_with (go_at_call 55; refine C1.mono ?_; rintro e w1 ⟨rfl, hb1⟩)
    go_ret
    exact ⟨_, rfl, e.out ▸ own_nil _ _ _, hb1⟩
  · have e : Hid (putsR zs = (greedy zs n).2) := by show _ = _; unfold putsR; rw [hv, if_pos rfl, h.len]
    have HT := mkhid (vTurn_iff.1 hv).2
    have hlen := mkhid h.len
    rw [hv] at C1
    clear hv
    go_enter Try.func26, Try.ntmps26
    go_wp2_with (go_at_call 55; refine C1.mono ?_; rintro e w1 ⟨rfl, hb1⟩)
    clear C1
    go_loopw [3, 4, 13] (fun o t i wr => ∃ k : Nat, k ≤ n ∧ i = .int .i64 k ∧ Below w.heap.size w wr ∧ ((k = 0 ∧ t = .slice none 0 0 ∧ o = .slice none 0 0) ∨ ∃ m g c go co : Nat, t = .slice (some ⟨g, 0, none⟩) m c ∧ o = .slice (some ⟨go, 0, none⟩) k co ∧
      Own wr w.heap.size 3 (.slice (some ⟨g, 0, none⟩) m c) (greedy zs k).1 ∧ Own wr w.heap.size 3 (.slice (some ⟨go, 0, none⟩) k co) (greedy zs k).2 ∧ Hid (g ≠ go) ∧ m ≤ k)) (fun _ _ i _ => n - (intOf i).toNat)
    case atStart => exact ⟨0, Nat.zero_le _, rfl, hb1, .inl ⟨rfl, rfl, rfl⟩⟩
    case round =>
      obtain ⟨k, hk, rfl, hbr, hrel⟩ := hrel
      have hsz := hbr.size
      have hwb := h.lt
      by_cases hlt : k < n
      · have i1 : (0 : Int) ≤ (k : Int) := by omega
        have i2 : (k : Int) < (n : Int) := by omega
        have c1 := (h.below hbr).cell hlt
        have hgr := fun (q : Nat) => @greedy_1 zs _ k q rfl
        have hT2 : ∀ p, p < (greedy zs k).1.length → el (greedy zs k).1 p ≠ el zs k := fun p hp => greedy_ne HT.out (by rw [hlen.out]; exact hlt) hp
        have hff := fst_first hT2
        obtain ⟨x, hx⟩ : ∃ x, x = el zs k := ⟨_, rfl⟩
        rw [← hx] at c1 hgr hff
        clear hT2
        obtain ⟨H, hH⟩ : ∃ H, H = wr.heap.size := ⟨_, rfl⟩
        obtain ⟨wt, hwt⟩ : ∃ wt : World, wt = wr.alloc (.cells #[(.int .i64 x)] 3) := ⟨_, rfl⟩
        have t0 : wt.cell? ⟨H, 0, none⟩ = some (.int .i64 x) := by rw [hH, hwt, World.cell?_alloc_at _ _ _ _ rfl]; rfl
        have hts : H < wt.heap.size := by rw [hwt, hH]; simp
        have hbt : Below w.heap.size w wt := by rw [hwt]; exact hbr.alloc hsz _
        have hbrt : Below wr.heap.size wr wt := by rw [hwt]; exact (Below.refl _ _).alloc (Nat.le_refl _) _
        have HX := mkhid hx
        clear hx
        rcases hrel with ⟨rfl, rfl, rfl⟩ | ⟨m, g, c, go, co, rfl, rfl, hoT, hoO, hne, hmk⟩
        · -- the first number
          rw [Nat.add_zero] at c1
          have hq := (hgr 0 ⟨Nat.zero_le _, fun p hp => by omega, fun hh => by simp [greedy] at hh⟩)
          have HG1 : Hid ((greedy zs (0 + 1)).1 = [x]) := by show _ = _; rw [hq.1]; rfl
          have HG2 : Hid ((greedy zs (0 + 1)).2 = [0]) := by show _ = _; rw [hq.2]; rfl
          have CI := idxInt_c (.slice none 0 0) [] wt (Own.isl (own_nil wt w.heap.size 3)) (by simp) x H t0
          have hno : fstB (gtX [] x) ([] : List Int).length = -1 := fstB_none (fun j hj => by simp at hj)
          rw [hno] at CI
          clear hgr hff hq hno hbrt
          go_wp2_with fail
          rw [← hwt, ← hH]
          have HE := mkhid hH
          clear hwt c1 hbr hH
          go_at_call 56
          refine CI.mono ?_
          rintro e w2 ⟨rfl, rfl⟩
          have hsz2 := hbt.size
          have HH : H < wt.heap.size := by omega
          go_upto_region 10 with (fail)
          obtain ⟨v0, hv0⟩ : ∃ v0, v0 = Value.slice none 0 0 := ⟨_, rfl⟩
          rw [← hv0]
          have hn0 : ∀ W : World, W.ownsRow w.heap.size 3 1 v0 0 (([] : List Int).map (Value.int .i64)) := fun W => hv0 ▸ World.ownsRow_nil _ _ _ _
          have hob : v0.ownBlock = none := by rw [hv0]; rfl
          have HV0 := mkhid hv0
          clear hv0
          go_wp2_with (first | (at_builtin; refine wpList_append_own_at _ rfl (.tmp 24) (.tmp 26) 45 rfl w.heap.size 3 i0 (.int .i64 0) 1 8 Try.underlying45 hi hz0 hz1 hz2 rfl (by decide) _ 0 _ rfl (hn0 _) ⟨_, 0, none⟩ 1 1 [.int .i64 x] rfl rfl (cell_one_at _ _ _ _ (by first | rfl | simp)) (by intro u hu; simp at hu; subst hu; rfl) (by unfold maxLen; omega) (by omega) (by first | omega | (simp; omega) | simp) ?_; intro v1 w2 hown1 hgrow1 hnil1 hat1; have hcx := (grown_cell (b := H) (o := 0) hgrow1 (by first | omega | (simp; omega) | simp) (fun he => by have := hob.symm.trans he; cases this)); obtain ⟨g1, cc1, rfl, p1, p2, p3, p4⟩ := nil_app (by omega) hown1 hgrow1 hat1 hob; (try simp only [World.cell?_alloc_past _ _ _ HH] at hcx); rw [t0] at hcx; have c6 := (own_facts p1 0).1 (by omega); have c7 := (own_facts p1 0).2; have hb2 := hbt.trans p4; have P1 := own_set p1 0 x; have hz2' := hb2.size; have p5 := (Own.at p1).2.1; have HB3 := mkhid (hb2.setCell (p := ⟨g1, 0, none⟩) p5 (.int .i64 x)); have hz3 := HB3.out.size; clear hown1 hgrow1 hnil1 hat1) | (at_builtin; refine wpList_append_own_at _ rfl (.tmp 32) (.tmp 34) 45 rfl w.heap.size 3 i0 (.int .i64 0) 1 8 Try.underlying45 hi hz0 hz1 hz2 rfl (by decide) _ 0 _ rfl (hn0 _) ⟨_, 0, none⟩ 1 1 [.int .i64 0] rfl rfl (cell_one_at _ _ _ _ (by first | rfl | simp)) (by intro u hu; simp at hu; subst hu; rfl) (by unfold maxLen; omega) (by omega) (by first | omega | (simp; omega) | simp) ?_; intro v2 w3 hown2 hgrow2 hnil2 hat2; have K1 := (P1.below ((Below.refl _ _).alloc (Nat.le_refl _) _)).kept hgrow2 (.inr (fun he => by have := he.trans hob; simp [Value.ownBlock] at this)); obtain ⟨g2, cc2, rfl, r1, r2, r3, r4⟩ := nil_app hz3 hown2 hgrow2 hat2 hob; have hb4 := HB3.out.trans r4))
          clear hown2 hgrow2 hnil2 hat2
          have hne2 : Hid (g1 ≠ g2) := by
            intro e
            have hh : (w2.setCell ⟨g1, 0, none⟩ (.int .i64 x)).heap.size < g2 := r2
            have hh2 : w2.heap.size ≤ (w2.setCell ⟨g1, 0, none⟩ (.int .i64 x)).heap.size := by simp [World.setCell]
            omega
          have K2 : Own w3 w.heap.size 3 (.slice (some ⟨g1, 0, none⟩) 1 cc1) (greedy zs (0 + 1)).1 := by rw [HG1.out]; exact K1
          have K3 : Own w3 w.heap.size 3 (.slice (some ⟨g2, 0, none⟩) 1 cc2) (greedy zs (0 + 1)).2 := by rw [HG2.out]; exact r1
          have hv0 := HV0.out
          subst hv0
          go_wp2
          go_roundw
          case rel => exact ⟨1, by omega, rfl, hb4, .inr ⟨1, g1, cc1, g2, cc2, rfl, rfl, K2, K3, hne2, Nat.le_refl _⟩⟩
          case measure => simp [intOf]; omega
        · obtain ⟨T, hT⟩ : ∃ T, T = (greedy zs k).1 := ⟨_, rfl⟩
          obtain ⟨O, hO⟩ : ∃ O, O = (greedy zs k).2 := ⟨_, rfl⟩
          rw [← hT] at hoT hgr hff
          rw [← hO] at hoO hgr
          have HG := mkhid hgr
          have hm := mkhid (Own.at hoT).1.symm
          have ho := mkhid (Own.at hoO).1.symm
          have hgH : g < H := by rw [hH]; exact (Own.at hoT).2.2.1
          have hgoH : go < H := by rw [hH]; exact (Own.at hoO).2.2.1
          have hgB : w.heap.size ≤ g := (Own.at hoT).2.1
          have oT := hoT.below hbrt
          have oO := hoO.below hbrt
          have hTl : T.length ≤ 1048576 := by rw [hm.out]; omega
          have hOl : O.length ≤ 1048576 := by rw [ho.out]; omega
          have CI := idxInt_c _ T wt oT.isl hTl x H t0
          have HFF := mkhid hff
          clear hT hO hgr hff hoT hoO
          go_wp2_with fail
          rw [← hwt, ← hH]
          have HE := mkhid hH
          clear hwt c1 hbr hH hbrt
          have hsz2 := hbt.size
          have hng : ¬ (g = H) := by omega
          have hng2 : ¬ (H = g) := by omega
          have hno : ¬ (go = H) := by omega
          go_at_call 56
          refine CI.mono ?_
          rintro e w2 ⟨rfl, rfl⟩
          rcases HFF.out with ⟨q, hqT, hq1, hq2⟩ | ⟨hq1, hq2⟩
          · rw [hq1]
            have hqm : q < m := by rw [hm.out] at hqT; exact hqT
            have j1 : (0 : Int) ≤ (q : Int) := by omega
            have j2 : (q : Int) < (m : Int) := by omega
            have hG := HG.out _ hq2
            have HG1 := mkhid hG.1
            have HG2 := mkhid hG.2
            clear hq1 hq2 hqT hG CI HFF HG
            have c6 := (own_facts oT q).1 hqm
            have c7 := (own_facts oT q).2
            have P1 := own_set oT q x
            have P2 := own_beside (j := q) (u := .int .i64 x) oO hne.out
            have HB3 := mkhid (hbt.setCell (p := ⟨g, q, none⟩) hgB (.int .i64 x))
            have hz3 := HB3.out.size
            go_wp2_with (at_builtin; refine wpList_append_own_at _ rfl (.tmp 32) (.tmp 34) 45 rfl w.heap.size 3 i0 (.int .i64 0) 1 8 Try.underlying45 hi hz0 hz1 hz2 rfl (by decide) _ (O).length _ rfl (World.ownsRow.alloc (show World.ownsRow _ w.heap.size 3 1 _ _ _ from P2) _) ⟨_, 0, none⟩ 1 1 [.int .i64 q] rfl rfl (cell_one_at _ _ _ _ (by first | rfl | simp)) (by intro u hu; simp at hu; subst hu; rfl) (by unfold maxLen; omega) (by omega) (by first | omega | (simp; omega) | simp) ?_; intro v2 w3 hown2 hgrow2 hnil2 hat2; obtain ⟨g2, cc2, rfl, r1, r2, r3, r4, r5⟩ := two_app P2 P1 (Ne.symm hne.out) hz3 hown2 hgrow2 hat2)
            clear hown2 hgrow2 hnil2 hat2
            rw [putTop_old hm.out hqm, ← HG1.out] at r2
            rw [← HG2.out] at r1
            have hb4 := HB3.out.trans r4
            clear HB3 r4 hz3 P1 P2 c6 c7
            go_wp2
            go_roundw
            case rel => exact ⟨k + 1, by omega, by go_num, hb4, .inr ⟨m, g, c, g2, cc2, rfl, rfl, r2, r1, Ne.symm r3, by omega⟩⟩
            case measure => simp [intOf]; omega
          · rw [hq1]
            have hq2' : IsFirst T x m := hm.out ▸ hq2
            have hG := HG.out _ hq2'
            have HG1 := mkhid hG.1
            have HG2 := mkhid hG.2
            clear hq1 hq2 hq2' hG CI HFF HG
            go_wp2_with (first | (at_builtin; refine wpList_append_own_at _ rfl (.tmp 24) (.tmp 26) 45 rfl w.heap.size 3 i0 (.int .i64 0) 1 8 Try.underlying45 hi hz0 hz1 hz2 rfl (by decide) _ (T).length _ rfl (World.ownsRow.alloc (show World.ownsRow _ w.heap.size 3 1 _ _ _ from oT) _) ⟨_, 0, none⟩ 1 1 [.int .i64 x] rfl rfl (cell_one_at _ _ _ _ (by first | rfl | simp)) (by intro u hu; simp at hu; subst hu; rfl) (by unfold maxLen; omega) (by omega) (by first | omega | (simp; omega) | simp) ?_; intro v1 w2 hown1 hgrow1 hnil1 hat1; have hcx := (grown_cell (b := H) (o := 0) hgrow1 (by first | omega | (simp; omega) | simp) (fun he => by injection he with he; exact hng he)); obtain ⟨g1, cc1, rfl, p1, p2, p3, p4, p5⟩ := two_app oT oO hne.out hsz2 hown1 hgrow1 hat1; (try simp only [World.cell?_alloc_past _ _ _ hts] at hcx); rw [t0] at hcx; have hb2 := hbt.trans p4; have hzz := hb2.size; have c6 := (own_facts p1 m).1 (by omega); have c7 := (own_facts p1 m).2; have P1 := own_set p1 m x; have P2 := own_beside (j := m) (u := .int .i64 x) p2 p3; have HB3 := mkhid (hb2.setCell (p := ⟨g1, m, none⟩) p5 (.int .i64 x)); clear hown1 hgrow1 hnil1 hat1 p1 p2 p4 hb2 oT oO; have hz3 := HB3.out.size) | (at_builtin; refine wpList_append_own_at _ rfl (.tmp 32) (.tmp 34) 45 rfl w.heap.size 3 i0 (.int .i64 0) 1 8 Try.underlying45 hi hz0 hz1 hz2 rfl (by decide) _ (O).length _ rfl (World.ownsRow.alloc (show World.ownsRow _ w.heap.size 3 1 _ _ _ from P2) _) ⟨_, 0, none⟩ 1 1 [.int .i64 m] rfl rfl (cell_one_at _ _ _ _ (by first | rfl | simp)) (by intro u hu; simp at hu; subst hu; rfl) (by unfold maxLen; omega) (by omega) (by first | omega | (simp; omega) | simp) ?_; intro v2 w3 hown2 hgrow2 hnil2 hat2; obtain ⟨g2, cc2, rfl, r1, r2, r3, r4, r5⟩ := two_app P2 P1 (Ne.symm p3) hz3 hown2 hgrow2 hat2))
            clear hown2 hgrow2 hnil2 hat2
            rw [putTop_self hm.out, ← HG1.out] at r2
            rw [← HG2.out] at r1
            have hb4 := HB3.out.trans r4
            clear HB3 r4 hz3 P1 P2 c6 c7
            go_wp2
            go_roundw
            case rel => exact ⟨k + 1, by omega, by go_num, hb4, .inr ⟨m + 1, g1, cc1, g2, cc2, rfl, rfl, r2, r1, Ne.symm r3, by omega⟩⟩
            case measure => simp [intOf]; omega
      · have hkn : k = n := by omega
        subst hkn
        rcases hrel with ⟨rfl, rfl, rfl⟩ | ⟨m, g, c, go, co, rfl, rfl, hoT, hoO, hne, hmk⟩
        · have e2 : Hid (putsR zs = []) := by show _ = _; rw [e.out]; rfl
          go_wp2
          go_ret
          exact ⟨_, rfl, e2.out ▸ own_nil _ _ _, hbr⟩
        · go_wp2
          go_ret
          exact ⟨_, rfl, e.out ▸ hoO, hbr⟩

set_option maxHeartbeats 1000000 in
theorem FnExactPutStacks_walk (v0 : Value) (zs0 : List Int) (w : World) (hv0 : ISl w v0 zs0) : Calls Try.prog 6 #[v0] w (Rt (.bool true) w) := by
  have hv0' := hv0
  obtain ⟨p0, cap0, rfl, _⟩ := hv0'
  by_cases hl0 : zs0.length ≤ 1048576
  · have ml0 : zs0.length ≤ maxLen := by unfold maxLen; omega
    obtain ⟨RS, hRS⟩ : ∃ RS, RS = putsR zs0 := ⟨_, rfl⟩
    have hr : RS.length ≤ 1048576 := by rw [hRS]; exact putsR_short hl0
    have hB0 : Below w.heap.size w w := Below.refl _ _
    go_enter Try.func6, Try.ntmps6
    have HRS := mkhid hRS
    clear hRS
    go_wp2_with fail
    refine (toIntS_c _ zs0 _ (hv0.below hB0) hl0).mono ?_
    rintro e w1 ⟨g1, rfl, ho1, hb1⟩
    have hB1 := hB0.trans (hb1.mono hB0.size)
    have hz1 := hb1.size
    have s0 := ho1.sl hl0 ml0
    clear ho1
    clear hB0 hb1
    go_wp2_with fail
    refine (spec_PutStacks_s s0).mono ?_
    rintro e w2 ⟨vW, rfl, OW, hb2⟩
    have hB2 := hB1.trans (hb2.mono hB1.size)
    have hz2 := hb2.size
    replace s0 := s0.below hb2
    have OW_c := OW
    rw [← HRS.out] at OW OW_c
    clear hB1 hb2
    go_wp2_with fail
    clear s0
    refine (toIntS_c _ zs0 _ (hv0.below hB2) hl0).mono ?_
    rintro e w3 ⟨g3, rfl, ho3, hb3⟩
    have hB3 := hB2.trans (hb3.mono hB2.size)
    have hz3 := hb3.size
    replace OW := OW.below hb3
    have s0 := ho3.sl hl0 ml0
    have OX0 := ho3
    have OX0_c := ho3
    clear ho3
    clear hB2 hb3
    go_wp2_with fail
    refine (impl_PutStacks_s s0).mono ?_
    rintro e w4 ⟨vG, rfl, OG, hb4⟩
    have hB4 := hB3.trans (hb4.mono hB3.size)
    have hz4 := hb4.size
    replace OW := OW.below hb4
    replace s0 := s0.below hb4
    replace OX0 := OX0.below hb4
    have OG_c := OG
    rw [← HRS.out] at OG OG_c
    clear hB3 hb4
    go_wp2_with fail
    have d_WX0 := own_apart OW_c OX0_c (by omega)
    have d_XG0 := own_apart OX0_c OG_c (by omega)
    have d_WG := own_apart OW_c OG_c (by omega)
    clear OW_c OG_c OX0_c
    refine (rd_rt (eqIntS_c _ _ RS RS _ OG.isl OW.isl hr hr)).mono ?_
    rintro e w5 ⟨rfl, hb5⟩
    have hB5 := hB4.trans (hb5.mono hB4.size)
    have hz5 := hb5.size
    replace OW := OW.below hb5
    replace s0 := s0.below hb5
    replace OX0 := OX0.below hb5
    replace OG := OG.below hb5
    clear hB4 hb5
    go_wp2_with fail
    refine (toIntS_c _ zs0 _ (hv0.below hB5) hl0).mono ?_
    rintro e w6 ⟨g6, rfl, ho6, hb6⟩
    have hB6 := hB5.trans (hb6.mono hB5.size)
    have hz6 := hb6.size
    replace OW := OW.below hb6
    replace s0 := s0.below hb6
    replace OX0 := OX0.below hb6
    replace OG := OG.below hb6
    have t0 := ho6.sl hl0 ml0
    clear ho6
    clear hB5 hb6
    go_wp2_with fail
    refine (rd_rt (eqIntS_c _ _ zs0 zs0 _ s0.isl t0.isl hl0 hl0)).mono ?_
    rintro e w7 ⟨rfl, hb7⟩
    have hB7 := hB6.trans (hb7.mono hB6.size)
    have hz7 := hb7.size
    replace OW := OW.below hb7
    replace s0 := s0.below hb7
    replace OX0 := OX0.below hb7
    replace OG := OG.below hb7
    replace t0 := t0.below hb7
    clear hB6 hb7
    go_wp2_with fail
    clear s0 t0
    refine (markIntS_c _ _ _ (1) _ OX0 hl0 ⟨by omega, by omega⟩).mono ?_
    rintro e w8 ⟨rfl, N8, gr8⟩
    have hb8 := Own.below_of (C := w.heap.size) OX0 gr8 (by omega) hB7.size
    replace OW := OW.kept gr8 d_WX0
    replace OG := OG.kept gr8 (apart_symm d_XG0)
    have hz8 := gr8.size
    have hB8 := hB7.trans hb8
    replace OX0 := N8
    clear N8 gr8 hB7 hb8
    go_wp2_with fail
    refine (rd_rt (eqIntS_c _ _ RS RS _ OG.isl OW.isl hr hr)).mono ?_
    rintro e w9 ⟨rfl, hb9⟩
    have hB9 := hB8.trans (hb9.mono hB8.size)
    have hz9 := hb9.size
    replace OW := OW.below hb9
    replace OX0 := OX0.below hb9
    replace OG := OG.below hb9
    clear hB8 hb9
    go_wp2_with fail
    clear OX0
    refine (markIntS_c _ _ _ (1) _ OG hr ⟨by omega, by omega⟩).mono ?_
    rintro e w10 ⟨rfl, N10, gr10⟩
    have hb10 := Own.below_of (C := w.heap.size) OG gr10 (by omega) hB9.size
    replace OW := OW.kept gr10 d_WG
    have hz10 := gr10.size
    have hB10 := hB9.trans hb10
    replace OG := N10
    clear N10 gr10 hB9 hb10
    go_wp2_with fail
    refine (heldIntS_c _ _ 1 RS.length _ OG hr ⟨by omega, by omega⟩).mono ?_
    rintro e _ ⟨rfl, rfl⟩
    go_wp2_with fail
    refine (toIntS_c _ zs0 _ (hv0.below hB10) hl0).mono ?_
    rintro e w11 ⟨g11, rfl, ho11, hb11⟩
    have hB11 := hB10.trans (hb11.mono hB10.size)
    have hz11 := hb11.size
    replace OW := OW.below hb11
    replace OG := OG.below hb11
    have s0 := ho11.sl hl0 ml0
    clear ho11
    clear hB10 hb11
    go_wp2_with fail
    refine (impl_PutStacks_s s0).mono ?_
    rintro e w12 ⟨vH, rfl, OH, hb12⟩
    have hB12 := hB11.trans (hb12.mono hB11.size)
    have hz12 := hb12.size
    replace OW := OW.below hb12
    replace OG := OG.below hb12
    replace s0 := s0.below hb12
    rw [← HRS.out] at OH
    clear hB11 hb12
    go_wp2_with fail
    refine (rd_rt (eqIntS_c _ _ RS RS _ OH.isl OW.isl hr hr)).mono ?_
    rintro e w13 ⟨rfl, hb13⟩
    have hB13 := hB12.trans (hb13.mono hB12.size)
    have hz13 := hb13.size
    replace OW := OW.below hb13
    replace OG := OG.below hb13
    replace s0 := s0.below hb13
    replace OH := OH.below hb13
    clear hB12 hb13
    go_wp2_with fail
    refine (heldIntS_c _ _ 1 RS.length _ OG hr ⟨by omega, by omega⟩).mono ?_
    rintro e _ ⟨rfl, rfl⟩
    go_wp2
    go_ret
    exact ⟨rfl, hB13⟩
  · have hl0' : (1048576 : Int) < (zs0.length : Int) := by omega
    go_enter Try.func6, Try.ntmps6
    go_wp2
    all_goals (go_ret; exact ⟨rfl, Below.refl _ _⟩)
end Go.Proofs.Ytimfabpigpcjhaa
