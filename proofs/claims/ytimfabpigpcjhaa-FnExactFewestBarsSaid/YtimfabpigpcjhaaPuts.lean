/- putStacks (spec), PutStacks and StacksFor of spec; no statement is proved here. -/
import Derived.Test.YtimfabpigpcjhaaPlLis
import Derived.Test.YtimfabpigpcjhaaSwap2
import Derived.Maps.AppendAt
namespace Go.Proofs.Ytimfabpigpcjhaa
open Go.ChangeShapes Go.WideShapes Go.ChangeAt Go.RowKit
set_option linter.unusedVariables false
set_option linter.unusedSimpArgs false

theorem own_app {w : World} {B : Nat} {E : TypeId} {v : Value} {zs : List Int} {x : Int} (h : w.ownsRow B E 1 v (zs.length + 1) (zs.map (Value.int .i64) ++ [.int .i64 x])) : Own w B E v (zs ++ [x]) := by
  unfold Own; rw [List.length_append, List.map_append]; exact h
theorem own_app_form {w : World} {B m : Nat} {E : TypeId} {v : Value} {zs : List Int} {x : Int} (h : Own w B E v (zs ++ [x])) (hm : zs.length = m) : ∃ g c, v = .slice (some ⟨g, 0, none⟩) (m + 1) c := by
  rcases h.forms with ⟨_, e⟩ | ⟨g, c, e, _⟩
  · simp at e
  · exact ⟨g, c, by rw [e, List.length_append, hm]; rfl⟩
theorem putTop_new {T : List Int} {x : Int} {m : Nat} (h : T.length = m) : (T ++ [0]).set m x = putTop T m x := by
  subst h; unfold putTop; rw [if_neg (Nat.lt_irrefl _)]; rw [List.set_append_right _ _ (Nat.le_refl _)]; simp
theorem putTop_old {T : List Int} {x : Int} {m q : Nat} (h : T.length = m) (hq : q < m) : T.set q x = putTop T q x := by
  subst h; unfold putTop; rw [if_pos hq]
theorem greedy_1 {zs T : List Int} {k q : Nat} (hT : T = (greedy zs k).1) (hq : IsFirst T (el zs k) q) : (greedy zs (k + 1)).1 = putTop T q (el zs k) ∧ (greedy zs (k + 1)).2 = (greedy zs k).2 ++ [(q : Int)] := by
  have e : firstS T (el zs k) T.length = q := (firstS_spec T (el zs k) T.length (Nat.le_refl _) (fun p hp => by omega)).unique hq
  subst hT
  constructor
  · show putTop _ (firstS _ _ _) _ = _; rw [e]
  · show _ ++ [_] = _; rw [e]
theorem cell_one_at (w : World) (v : Value) (t : TypeId) (H : Nat) (hH : w.heap.size = H) : ∀ (j : Nat) (u : Value), [v][j]? = some u → (w.alloc (.cells #[v] t)).cell? ((⟨H, 0, none⟩ : Addr).add j) = some u := by
  subst hH; exact cell_one_new w v t
/-- two rows side by side: one grows by an element, the other stays -/
theorem two_app {wq w1 : World} {B g c m go co k : Nat} {E : TypeId} {T O : List Int} {v1 : Value} {x : Int} {o : Obj}
    (oT : Own wq B E (.slice (some ⟨g, 0, none⟩) m c) T) (oO : Own wq B E (.slice (some ⟨go, 0, none⟩) k co) O) (hne : g ≠ go) (hB : B ≤ wq.heap.size)
    (h1 : w1.ownsRow B E 1 v1 (T.length + 1) (T.map (Value.int .i64) ++ [.int .i64 x])) (h2 : (wq.alloc o).grownBy w1 (some g)) (h4 : v1.ownBlock = some g ∨ v1.ownBlock = some (wq.alloc o).heap.size) :
    ∃ g1 c1, v1 = .slice (some ⟨g1, 0, none⟩) (m + 1) c1 ∧ Own w1 B E (.slice (some ⟨g1, 0, none⟩) (m + 1) c1) (T ++ [x]) ∧ Own w1 B E (.slice (some ⟨go, 0, none⟩) k co) O ∧ g1 ≠ go ∧ Below B wq w1 ∧ B ≤ g1 := by
  have ha := own_app h1
  obtain ⟨g1, c1, rfl⟩ := own_app_form ha (Own.at oT).1.symm
  have hgo := (Own.at oO).2.2.1
  refine ⟨g1, c1, rfl, ha, ?_, ?_, ?_, (Own.at ha).2.1⟩
  · exact (oO.below ((Below.refl _ _).alloc (Nat.le_refl _) o)).kept h2 (.inr (fun e => hne (by injection e with e; exact e.symm)))
  · rcases h4 with h4 | h4
    · injection h4 with h4; have h4' : g1 = g := h4; rw [h4']; exact hne
    · injection h4 with h4; have h4' : g1 = (wq.alloc o).heap.size := h4; rw [h4']; simp; omega
  · exact ((Below.refl B wq).alloc hB o).grown h2 (by simp; omega) (fun k hk => by cases hk; exact (Own.at oT).2.1)
theorem own_beside {w : World} {B g go m c j : Nat} {E : TypeId} {O : List Int} {u : Value} (h : Own w B E (.slice (some ⟨go, 0, none⟩) m c) O) (hne : g ≠ go) : Own (w.setCell ⟨g, j, none⟩ u) B E (.slice (some ⟨go, 0, none⟩) m c) O :=
  h.kept (grown_setCell (grown_refl w (some g)) u) (.inr (fun e => hne (by injection e with e; exact e.symm)))
set_option maxHeartbeats 1000000 in
theorem spec_putStacks_s {b off n cap : Nat} {zs : List Int} {w : World} (h : Sl w b off n cap zs) :
    Calls Try.prog 54 #[.slice (some ⟨b, off, none⟩) n cap] w (FrC 3 n (greedy zs n).2 w) := by
  obtain ⟨i0, hi, hz0, hz1, hz2⟩ := info_parts Try.infoInt
  have hs := h.small
  have ho1 := (own_empty w w.heap.size (Nat.le_refl _)).below ((Below.refl _ _).alloc (Nat.le_refl _) (.cells #[] 3))
  have ho2 : Own ((w.alloc (.cells #[] 3)).alloc (.cells #[] 3)) w.heap.size 3 (.slice (some ⟨w.heap.size + 1, 0, none⟩) 0 0) [] := by
    have := own_empty (w.alloc (.cells #[] 3)) w.heap.size (by simp); simpa using this
  go_enter Try.func54, Try.ntmps54
  go_wp2_with fail
  go_loopw [3, 4, 5, 6] (fun t o i _ wr => ∃ k m g c go co : Nat, k ≤ n ∧ i = .int .i64 k ∧ t = .slice (some ⟨g, 0, none⟩) m c ∧ o = .slice (some ⟨go, 0, none⟩) k co ∧
    Own wr w.heap.size 3 (.slice (some ⟨g, 0, none⟩) m c) (greedy zs k).1 ∧ Own wr w.heap.size 3 (.slice (some ⟨go, 0, none⟩) k co) (greedy zs k).2 ∧ Hid (g ≠ go) ∧ m ≤ k ∧ Below w.heap.size w wr) (fun _ _ i _ _ => n - (intOf i).toNat)
  case atStart => exact ⟨0, 0, w.heap.size, 0, w.heap.size + 1, 0, Nat.zero_le _, rfl, rfl, (by first | rfl | simp), ho1, ho2, fun e => by omega, Nat.le_refl _, ((Below.refl _ _).alloc (Nat.le_refl _) _).alloc (by simp) _⟩
  case round =>
    obtain ⟨k, m, g, c, go, co, hk, rfl, rfl, rfl, hoT, hoO, hne, hmk, hbr⟩ := hrel
    clear ho1 ho2
    have hgr := fun (q : Nat) => @greedy_1 zs _ k q rfl
    obtain ⟨T, hT⟩ : ∃ T, T = (greedy zs k).1 := ⟨_, rfl⟩
    obtain ⟨O, hO⟩ : ∃ O, O = (greedy zs k).2 := ⟨_, rfl⟩
    rw [← hT] at hoT
    rw [← hO] at hoO
    rw [← hT, ← hO] at hgr
    have HG := mkhid hgr
    have hm := mkhid (Own.at hoT).1.symm
    have ho := mkhid (Own.at hoO).1.symm
    have HOk := mkhid hO
    clear hT hO hgr
    by_cases hlt : k < n
    · obtain ⟨wo, hwo⟩ : ∃ wo : World, Hid (wo = wr) := ⟨_, rfl⟩
      rw [← hwo.out] at hoT hoO hbr
      go_wp2_with fail
      go_loopw [6] (fun s wr => ∃ q : Nat, q ≤ m ∧ s = .int .i64 q ∧ Hid (∀ p, p < q → el T p < el zs k) ∧ Drew wo wr) (fun s _ => m - (intOf s).toNat)
      case atStart => exact ⟨0, Nat.zero_le _, rfl, fun q hq => by omega, hwo.out ▸ Drew.refl _⟩
      case round =>
        obtain ⟨q, hq, rfl, HQ, hd⟩ := hrel
        have hbr2 := hbr.trans (hd.below.mono hbr.size)
        have c1 := (h.below hbr2).cell hlt
        have i1 : (0 : Int) ≤ (k : Int) := by omega
        have i2 : (k : Int) < (n : Int) := by omega
        have i3 : (0 : Int) ≤ (q : Int) := by omega
        by_cases hqm : q < m
        · have i4 : (q : Int) < (m : Int) := by omega
          have c2 := (own_facts (hoT.below hd.below) q).1 hqm
          by_cases hx : el T q < el zs k
          · have hx' : decide (el T q < el zs k) = true := decide_eq_true hx
            have HQ2 : Hid (∀ p, p < q + 1 → el T p < el zs k) := fun p hp => by
              by_cases e : p = q
              · exact e ▸ hx
              · exact HQ.out p (by omega)
            go_wp2_with fail
            go_quiet (fail)
            go_wp2
            go_roundw
            case rel => exact ⟨q + 1, by omega, by go_num, HQ2, (by repeat (first | exact Drew.refl _ | assumption | refine Drew.drewN ?_ _ | refine Drew.drew ?_))⟩
            case measure => simp [intOf]; omega
          · have hx' : decide (el T q < el zs k) = false := decide_eq_false hx
            have HI : Hid (IsFirst T (el zs k) q) := ⟨by rw [hm.out]; omega, HQ.out, fun _ => by omega⟩
            have e0 : ((q : Int) == (m : Int)) = false := by simp; omega
            go_wp2_with fail
            go_quiet (fail)
            generalize hwq : World.drewN wr _ = wq
            have hdq : Drew wo wq := hwq ▸ hd.drewN _
            clear hwq
            have hbq := hbr.trans (hdq.below.mono hbr.size)
            have oT := hoT.below hdq.below
            have oO := hoO.below hdq.below
            have hTl : T.length ≤ 1048576 := by rw [hm.out]; omega
            have hOl : O.length ≤ 1048576 := by rw [ho.out]; omega
            have hsz := hbq.size
            have hG := HG.out _ HI.out
            have HG1 := mkhid hG.1
            have HG2 := mkhid hG.2
            clear hoT hoO hbr hbr2 hd hdq hG
            have c5 := (h.below hbq).cell hlt
            have c6 := (own_facts oT q).1 hqm
            have c7 := (own_facts oT q).2
            have p3 := hne.out
            have p5 := (Own.at oT).2.1
            have P1 := own_set oT q (el zs k)
            have P2 := own_beside (j := q) (u := .int .i64 (el zs k)) oO hne.out
            have HB3 := mkhid (hbq.setCell (p := ⟨g, q, none⟩) p5 (.int .i64 (el zs k)))
            have hz3 := HB3.out.size
            go_wp2_with (at_builtin; go_loud (refine wpList_append_own_at _ rfl (.tmp 46) (.tmp 48) 45 rfl w.heap.size 3 i0 (.int .i64 0) 1 8 Try.underlying45 hi hz0 hz1 hz2 rfl (by decide) _ (O).length _ rfl (World.ownsRow.alloc (show World.ownsRow _ w.heap.size 3 1 _ _ _ from P2) _) ⟨_, 0, none⟩ 1 1 [.int .i64 q] rfl rfl (cell_one_at _ _ _ _ (by first | rfl | simp)) (by intro u hu; simp at hu; subst hu; rfl) (by unfold maxLen; omega) (by omega) (by simp; omega) ?_; intro v2 w2 hown2 hgrow2 hnil2 hat2; obtain ⟨g2, cc2, rfl, r1, r2, r3, r4, r5⟩ := two_app P2 P1 (Ne.symm p3) hz3 hown2 hgrow2 hat2))
            clear hown2 hgrow2 hnil2 hat2
            rw [putTop_old hm.out hqm, ← HG1.out] at r2
            rw [← HG2.out] at r1
            have hb4 := HB3.out.trans r4
            clear HB3 r4 hz3 P1 P2 c5 c6 c7
            go_wp2
            go_roundw
            case rel => exact ⟨k + 1, m, g, c, g2, cc2, by omega, by go_num, rfl, rfl, r2, r1, Ne.symm r3, by omega, hb4⟩
            case measure => simp [intOf]; omega
        · have i4 : decide ((q : Int) < (m : Int)) = false := decide_eq_false (by omega)
          obtain rfl : q = m := by omega
          have HI : Hid (IsFirst T (el zs k) q) := ⟨by rw [hm.out]; omega, HQ.out, fun hh => by rw [hm.out] at hh; omega⟩
          have e0 : ((q : Int) == (q : Int)) = true := by simp
          go_wp2_with fail
          go_quiet (fail)
          generalize hwq : World.drewN wr _ = wq
          have hdq : Drew wo wq := hwq ▸ hd.drewN _
          clear hwq
          have hbq := hbr.trans (hdq.below.mono hbr.size)
          have oT := hoT.below hdq.below
          have oO := hoO.below hdq.below
          have hTl : T.length ≤ 1048576 := by rw [hm.out]; omega
          have hOl : O.length ≤ 1048576 := by rw [ho.out]; omega
          have hsz := hbq.size
          have hG := HG.out _ HI.out
          have HG1 := mkhid hG.1
          have HG2 := mkhid hG.2
          clear hoT hoO hbr hbr2 hd hdq hG
          go_wp2_with (first | (at_builtin; refine wpList_append_own_at _ rfl (.tmp 36) (.tmp 37) 45 rfl w.heap.size 3 i0 (.int .i64 0) 1 8 Try.underlying45 hi hz0 hz1 hz2 rfl (by decide) _ (T).length _ rfl (World.ownsRow.alloc (show World.ownsRow _ w.heap.size 3 1 _ _ _ from oT) _) ⟨_, 0, none⟩ 1 1 [.int .i64 0] rfl rfl (cell_one_at _ _ _ _ (by first | rfl | simp)) (by intro u hu; simp at hu; subst hu; rfl) (by unfold maxLen; omega) (by omega) (by simp; omega) ?_; intro v1 w1 hown1 hgrow1 hnil1 hat1; obtain ⟨g1, cc1, rfl, p1, p2, p3, p4, p5⟩ := two_app oT oO hne.out hsz hown1 hgrow1 hat1; have hb1 := hbq.trans p4; have hzz := hb1.size; have c5 := (h.below hb1).cell hlt; have c6 := (own_facts p1 q).1 (by omega); have c7 := (own_facts p1 q).2; have P1 := own_set p1 q (el zs k); have P2 := own_beside (j := q) (u := .int .i64 (el zs k)) p2 p3; have HB3 := mkhid (hb1.setCell (p := ⟨g1, q, none⟩) p5 (.int .i64 (el zs k))); clear hown1 hgrow1 hnil1 hat1 p1 p2 p4 hb1 hbq c1 oT oO; have hz3 := HB3.out.size) | (at_builtin; refine wpList_append_own_at _ rfl (.tmp 46) (.tmp 48) 45 rfl w.heap.size 3 i0 (.int .i64 0) 1 8 Try.underlying45 hi hz0 hz1 hz2 rfl (by decide) _ (O).length _ rfl (World.ownsRow.alloc (show World.ownsRow _ w.heap.size 3 1 _ _ _ from P2) _) ⟨_, 0, none⟩ 1 1 [.int .i64 q] rfl rfl (cell_one_at _ _ _ _ (by first | rfl | simp)) (by intro u hu; simp at hu; subst hu; rfl) (by unfold maxLen; omega) (by omega) (by simp; omega) ?_; intro v2 w2 hown2 hgrow2 hnil2 hat2; obtain ⟨g2, cc2, rfl, r1, r2, r3, r4, r5⟩ := two_app P2 P1 (Ne.symm p3) hz3 hown2 hgrow2 hat2))
          clear hown2 hgrow2 hnil2 hat2
          rw [putTop_new hm.out, ← HG1.out] at r2
          rw [← HG2.out] at r1
          have hb4 := HB3.out.trans r4
          clear HB3 r4 hz3 P1 P2 c5 c6 c7
          go_wp2
          go_roundw
          case rel => exact ⟨k + 1, q + 1, g1, cc1, g2, cc2, by omega, by go_num, rfl, rfl, r2, r1, Ne.symm r3, by omega, hb4⟩
          case measure => simp [intOf]; omega
    · have hkn : k = n := by omega
      subst hkn
      go_wp2
      go_ret
      exact ⟨go, co, rfl, HOk.out ▸ hoO, hbr⟩
end Go.Proofs.Ytimfabpigpcjhaa
