/- The laws' helpers on slices of ints: toIntS, eqIntS, markIntS, heldIntS; no statement is proved here. -/
import Derived.Test.YtimfabpigpcjhaaInts
namespace Go.Proofs.Ytimfabpigpcjhaa
open Go.ChangeShapes Go.WideShapes Go.ChangeAt Go.RowKit
set_option linter.unusedVariables false
set_option linter.unusedSimpArgs false

theorem toIntS_c (v : Value) (zs : List Int) (w : World) (hv : ISl w v zs) (hl : zs.length ≤ 1048576) : Calls Try.prog 25 #[v] w (FrI 3 zs w) := by
  obtain ⟨i0, hi, hz0, hz1, hz2⟩ := info_parts Try.infoInt
  obtain ⟨p, cap, rfl, hp⟩ := hv
  obtain ⟨n, hn⟩ : ∃ n, zs.length = n := ⟨_, rfl⟩
  rw [hn] at hp hl ⊢
  have HN : Hid (zs.length = n) := hn
  clear hn
  by_cases h0 : 0 < n
  · obtain ⟨b, off, rfl, hb, hc⟩ := hp h0
    clear hp
    go_enter Try.func25, Try.ntmps25
    go_wp2_with (refine wpList_make_full _ rfl _ _ 45 rfl w.heap.size 3 i0 (.int .i64 0) 1 Try.underlying45 hi hz0 hz1 .i64 .i64 _ _ n rfl rfl rfl rfl (by rw [hz2]; omega) (by unfold maxLen; omega) (Nat.le_refl _) ?_; intro w1 hown1 hgrow1)
    have ho1 : w1.ownsRow w.heap.size 3 1 (.slice (some ⟨w.heap.size, 0, none⟩) n n) n ((zs.take 0 ++ List.replicate n 0).map (Value.int .i64)) := by
      have e : (madeCells (Value.int IntKind.i64 0).cells (n * 1)).toList = (zs.take 0 ++ List.replicate n 0).map (Value.int .i64) := by
        rw [show (Value.int IntKind.i64 0).cells = #[Value.int IntKind.i64 0] from rfl, toList_madeCells_one]; simp
      rw [← e]; exact hown1
    have hb1 : Below w.heap.size w w1 := (Below.refl _ _).grown hgrow1 (Nat.le_refl _) (fun k hk => by cases hk)
    clear hown1 hgrow1
    go_loopw [4] (fun i wr => ∃ k : Nat, k ≤ n ∧ i = .int .i64 k ∧ wr.ownsRow w.heap.size 3 1 (.slice (some ⟨w.heap.size, 0, none⟩) n n) n ((zs.take k ++ List.replicate (n - k) 0).map (Value.int .i64)) ∧ Below w.heap.size w wr) (fun i _ => n - (intOf i).toNat)
    case atStart => exact ⟨0, Nat.zero_le _, rfl, ho1, hb1⟩
    case round =>
      obtain ⟨k, hk, rfl, ho, hbr⟩ := hrel
      clear ho1 hb1
      by_cases hlt : k < n
      · have hcell : wr.cell? ⟨b, off + k, none⟩ = some (.int .i64 (el zs k)) := (hbr.cell (p := ⟨b, off + k, none⟩) hb).trans (hc k (by rw [HN.out]; exact hlt))
        have hold : ∃ u, wr.cell? ⟨w.heap.size, k, none⟩ = some u := by
          rw [ho.cellAt k (by omega)]
          exact ⟨_, List.getElem?_eq_getElem (by simp [HN.out]; omega)⟩
        obtain ⟨u, hu⟩ := hold
        have hfz := ho.frozenAt k
        have hst := ho.stored k (.int .i64 (el zs k))
        go_wp2
        go_roundw
        case rel => exact ⟨k + 1, by omega, by go_num, by rw [← fill_step zs k n HN.out hlt]; exact hst.1, hbr.setCell (Nat.le_refl _) _⟩
        case measure => simp [intOf]; omega
      · go_wp2
        go_ret
        refine ⟨w.heap.size, by rw [HN.out]; rfl, ?_, hbr⟩
        rw [fill_end zs k n HN.out hlt] at ho
        unfold Own; rw [HN.out]; exact ho
  · have hz : zs = [] := List.eq_nil_of_length_eq_zero (by rw [HN.out]; omega)
    obtain rfl : n = 0 := by omega
    go_enter Try.func25, Try.ntmps25
    go_wp2_with (refine wpList_make_full _ rfl _ _ 45 rfl w.heap.size 3 i0 (.int .i64 0) 1 Try.underlying45 hi hz0 hz1 .i64 .i64 _ _ 0 rfl rfl rfl rfl (by rw [hz2]; omega) (by unfold maxLen; omega) (Nat.le_refl _) ?_; intro w1 hown1 hgrow1)
    have hb1 : Below w.heap.size w w1 := (Below.refl _ _).grown hgrow1 (Nat.le_refl _) (fun k hk => by cases hk)
    go_loop [4] (fun i => i = .int .i64 0) (fun i => 0)
    case atStart => rfl
    case round =>
      obtain rfl := hrel
      go_wp2
      go_ret
      subst hz
      exact ⟨w.heap.size, rfl, (by rw [show (madeCells (Value.int IntKind.i64 0).cells (0 * 1)).toList = ([] : List Int).map (Value.int .i64) by simp [madeCells]] at hown1; exact hown1), hb1⟩
theorem eqIntS_c (va vb : Value) (xs ys : List Int) (w : World) (ha : ISl w va xs) (hb : ISl w vb ys) (hla : xs.length ≤ 1048576) (hlb : ys.length ≤ 1048576) : Calls Try.prog 27 #[va, vb] w (Rd (.bool (decide (xs = ys))) w) := by
  obtain ⟨p, cap, rfl, hp⟩ := ha
  obtain ⟨q, cap', rfl, hq⟩ := hb
  obtain ⟨n, hn⟩ : ∃ n, xs.length = n := ⟨_, rfl⟩
  obtain ⟨m, hm⟩ : ∃ m, ys.length = m := ⟨_, rfl⟩
  rw [hn] at hp hla ⊢
  rw [hm] at hq hlb ⊢
  have HN : Hid (xs.length = n) := hn
  have HM : Hid (ys.length = m) := hm
  clear hn hm
  by_cases he : n = m
  · subst he
    by_cases h0 : 0 < n
    · obtain ⟨b, off, rfl, hb, hc⟩ := hp h0
      obtain ⟨b', off', rfl, hb', hc'⟩ := hq h0
      clear hp hq
      go_enter Try.func27, Try.ntmps27
      go_wp2_with fail
      go_loopw [5] (fun i wr => ∃ k : Nat, k ≤ n ∧ i = .int .i64 k ∧ Hid (∀ j, j < k → el xs j = el ys j) ∧ Drew w wr) (fun i _ => n - (intOf i).toNat)
      case atStart => exact ⟨0, Nat.zero_le _, rfl, fun j hj => by omega, Drew.refl _⟩
      case round =>
        obtain ⟨k, hk, rfl, HB, hd⟩ := hrel
        by_cases hlt : k < n
        · have hcell : wr.cell? ⟨b, off + k, none⟩ = some (.int .i64 (el xs k)) := hd.ints hc k (by rw [HN.out]; exact hlt)
          have hcell' : wr.cell? ⟨b', off' + k, none⟩ = some (.int .i64 (el ys k)) := hd.ints hc' k (by rw [HM.out]; exact hlt)
          have i1 : (0 : Int) ≤ (k : Int) := by omega
          have i2 : (k : Int) < (n : Int) := by omega
          go_wp2_with fail
          go_quiet (fail)
          by_cases hx : el xs k = el ys k
          · have hx' : (el xs k != el ys k) = false := by simpa using hx
            go_wp2
            go_roundw
            case rel => exact ⟨k + 1, by omega, by go_num, fun j hj => (by by_cases e : j = k; exact e ▸ hx; exact HB.out j (by omega)), (by repeat (first | exact Drew.refl _ | assumption | refine Drew.drewN ?_ _ | refine Drew.drew ?_))⟩
            case measure => simp [intOf]; omega
          · have hx' : (el xs k != el ys k) = true := by simpa using hx
            have HE : Hid (decide (xs = ys) = false) := by
              show _ = _
              rw [decide_eq_false]
              rintro rfl
              exact hx rfl
            go_wp2
            go_ret
            exact ⟨ret_bool HE.out.symm, (by repeat (first | exact Drew.refl _ | assumption | refine Drew.drewN ?_ _ | refine Drew.drew ?_))⟩
        · go_wp2
          go_ret
          exact ⟨ret_bool (decide_eq_true (ext_el (HN.out.trans HM.out.symm) (fun i hi => HB.out i (by have := HN.out; omega)))).symm, (by repeat (first | exact Drew.refl _ | assumption | refine Drew.drewN ?_ _ | refine Drew.drew ?_))⟩
    · have hx : xs = [] := List.eq_nil_of_length_eq_zero (by rw [HN.out]; omega)
      have hy : ys = [] := List.eq_nil_of_length_eq_zero (by rw [HM.out]; omega)
      obtain rfl : n = 0 := by omega
      go_enter Try.func27, Try.ntmps27
      go_wp2_with fail
      go_loop [5] (fun i => i = .int .i64 0) (fun i => 0)
      case atStart => rfl
      case round =>
        obtain rfl := hrel
        go_wp2
        go_ret
        exact ⟨ret_bool (by first | rfl | (rw [hx, hy]; rfl)), (by repeat (first | exact Drew.refl _ | assumption | refine Drew.drewN ?_ _ | refine Drew.drew ?_))⟩
  · have HE : Hid (decide (xs = ys) = false) := by
      show _ = _
      rw [decide_eq_false]
      rintro rfl
      exact he (HN.out.symm.trans HM.out)
    go_enter Try.func27, Try.ntmps27
    have i1 : ((n : Int) != (m : Int)) = true := by simp; omega
    go_wp2_with fail
    go_ret
    exact ⟨ret_bool HE.out.symm, (by repeat (first | exact Drew.refl _ | assumption | refine Drew.drewN ?_ _ | refine Drew.drew ?_))⟩

/-- markIntS writes numbers from k on, ascending, over all elements, and nothing else -/
theorem markIntS_c (v : Value) (zs : List Int) (B : Nat) (k : Int) (w : World) (ho : Own w B 3 v zs) (hl : zs.length ≤ 1048576) (hk : 0 ≤ k ∧ k ≤ 1000000000) :
    Calls Try.prog 28 #[v, (.int .i64 k)] w fun e w' => e = .returned (.int .i64 (k + zs.length)) ∧ Own w' B 3 v (upFrom k zs.length) ∧ w.grownBy w' v.ownBlock := by
  obtain ⟨n, hn⟩ : ∃ n, zs.length = n := ⟨_, rfl⟩
  obtain ⟨hk1, hk2⟩ := hk
  rcases ho.forms with ⟨rfl, rfl⟩ | ⟨g, cap, rfl, hg1, hg2, hc, hcap⟩
  · simp at hn
    subst hn
    go_enter Try.func28, Try.ntmps28
    go_wp2_with fail
    go_loop [1, 5] (fun kk i => kk = .int .i64 k ∧ i = .int .i64 0) (fun _ i => 0)
    case atStart => exact ⟨rfl, rfl⟩
    case round =>
      obtain ⟨rfl, rfl⟩ := hrel
      go_wp2
      go_ret
      exact ⟨by first | rfl | exact ret_int (by omega) | simp, ho, grown_refl _ _⟩
  · rw [hn] at hcap ho hl ⊢
    have HN : Hid (zs.length = n) := hn
    clear hn hc
    have ho1 : Own w B 3 (.slice (some ⟨g, 0, none⟩) n cap) (upFrom k 0 ++ zs.drop 0) := ho
    go_enter Try.func28, Try.ntmps28
    go_wp2_with fail
    go_loopw [1, 5] (fun kk i wr => ∃ j : Nat, j ≤ n ∧ i = .int .i64 j ∧ kk = .int .i64 (k + j) ∧ Own wr B 3 (.slice (some ⟨g, 0, none⟩) n cap) (upFrom k j ++ zs.drop j) ∧ w.grownBy wr (some g)) (fun _ i _ => n - (intOf i).toNat)
    case atStart => exact ⟨0, Nat.zero_le _, rfl, by simp, ho1, grown_refl _ _⟩
    case round =>
      obtain ⟨j, hj, rfl, rfl, hor, hgr⟩ := hrel
      clear ho ho1
      by_cases hlt : j < n
      · have hcell := (own_facts hor j).1 hlt
        have hfz := (own_facts hor j).2
        have hst := own_set hor j (k + j)
        go_wp2
        go_roundw
        case rel => exact ⟨j + 1, by omega, by go_num, by go_num, by rw [← upFrom_step k j n zs HN.out hlt]; exact hst, grown_setCell hgr _⟩
        case measure => simp [intOf]; omega
      · go_wp2
        go_ret
        refine ⟨ret_int (by omega), ?_, hgr⟩
        rw [← upFrom_done k j n zs HN.out hj hlt]; exact hor
/-- heldIntS asks whether the numbers from k on stand there -/
theorem heldIntS_c (v : Value) (B : Nat) (k : Int) (n : Nat) (w : World) (ho : Own w B 3 v (upFrom k n)) (hl : n ≤ 1048576) (hk : 0 ≤ k ∧ k ≤ 1000000000) :
    Calls Try.prog 29 #[v, (.int .i64 k)] w (Rs (.int .i64 (k + n)) w) := by
  obtain ⟨hk1, hk2⟩ := hk
  rcases ho.forms with ⟨rfl, he⟩ | ⟨g, cap, rfl, hg1, hg2, hc, hcap⟩
  · have hn : n = 0 := by have := congrArg List.length he; rwa [upFrom_length] at this
    subst hn
    go_enter Try.func29, Try.ntmps29
    go_wp2_with fail
    go_loop [1, 5] (fun kk i => kk = .int .i64 k ∧ i = .int .i64 0) (fun _ i => 0)
    case atStart => exact ⟨rfl, rfl⟩
    case round =>
      obtain ⟨rfl, rfl⟩ := hrel
      go_wp2
      go_ret
      exact ⟨by first | rfl | exact ret_int (by omega) | simp, rfl⟩
  · rw [upFrom_length] at ho hcap ⊢
    go_enter Try.func29, Try.ntmps29
    go_wp2_with fail
    go_loop [1, 5] (fun kk i => ∃ j : Nat, j ≤ n ∧ i = .int .i64 j ∧ kk = .int .i64 (k + j)) (fun _ i => n - (intOf i).toNat)
    case atStart => exact ⟨0, Nat.zero_le _, rfl, by simp⟩
    case round =>
      obtain ⟨j, hj, rfl, rfl⟩ := hrel
      by_cases hlt : j < n
      · have hcell := (own_facts ho j).1 hlt
        rw [upFrom_el hlt] at hcell
        go_wp2
        go_round
        case rel => exact ⟨j + 1, by omega, by go_num, by go_num⟩
        case measure => simp [intOf]; omega
      · go_wp2
        go_ret
        exact ⟨ret_int (by omega), rfl⟩
end Go.Proofs.Ytimfabpigpcjhaa
