/- ValidTurn (spec and impl) and what it calls; no statement is proved here. -/
import Derived.Test.YtimfabpigpcjhaaHelp
import Derived.Test.YtimfabpigpcjhaaInR
import Derived.Test.YtimfabpigpcjhaaPlRack
namespace Go.Proofs.Ytimfabpigpcjhaa
open Go.ChangeShapes Go.WideShapes Go.ChangeAt Go.RowKit
set_option linter.unusedVariables false
set_option linter.unusedSimpArgs false

theorem placeIn_c (b off n cap : Nat) (zs : List Int) (x : Int) (w : World) (hn : zs.length = n) (hm : n ≤ 1048576) (hc : IntsAt w b off zs) :
    Calls Try.prog 68 #[.slice (some ⟨b, off, none⟩) n cap, (.int .i64 x)] w (Rs (.int .i64 (placeI zs x)) w) := by
  have HN : Hid (zs.length = n) := hn
  clear hn
  go_enter Try.func68, Try.ntmps68
  go_wp2_with fail
  go_loop [5] (fun i => ∃ k : Nat, k ≤ n ∧ i = .int .i64 k ∧ Hid (∀ j, j < k → el zs j ≠ x)) (fun i => n - (intOf i).toNat)
  case atStart => exact ⟨0, Nat.zero_le _, rfl, fun j hj => by omega⟩
  case round =>
    obtain ⟨k, hk, rfl, HB⟩ := hrel
    by_cases hlt : k < n
    · have hcell : w.cell? ⟨b, off + k, none⟩ = some (.int .i64 (el zs k)) := hc k (by rw [HN.out]; exact hlt)
      by_cases he : el zs k = x
      · have he' : (el zs k == x) = true := by simpa using he
        have HE : Hid (placeI zs x = k) := placeI_hit (by rw [HN.out]; exact hlt) he HB.out
        clear he
        go_wp2
        go_ret
        exact ⟨ret_int HE.out.symm, rfl⟩
      · have he' : (el zs k == x) = false := by simpa using he
        go_wp2
        go_round
        case rel => exact ⟨k + 1, by omega, by go_num, fun j hj => (by by_cases e : j = k; exact e ▸ he; exact HB.out j (by omega))⟩
        case measure => simp [intOf]; omega
    · have HE : Hid (placeI zs x = -1) := placeI_none (fun j hj => HB.out j (by rw [HN.out] at hj; omega))
      go_wp2
      go_ret
      exact ⟨ret_int HE.out.symm, rfl⟩
theorem spec_validTurn_c (b off n cap : Nat) (zs : List Int) (w : World) (hn : zs.length = n) (hm : n ≤ 1048576) (hnc : n ≤ cap) (hcm : cap ≤ maxLen) (hc : IntsAt w b off zs) :
    Calls Try.prog 53 #[.slice (some ⟨b, off, none⟩) n cap] w (Rd (.bool (vTurn zs)) w) := by
  have HN : Hid (zs.length = n) := hn
  unfold maxLen at hcm
  clear hn
  go_enter Try.func53, Try.ntmps53
  go_wp2_with fail
  go_loopw [3] (fun i wr => ∃ k : Nat, k ≤ n ∧ i = .int .i64 k ∧ okT zs k ∧ Drew w wr) (fun i _ => n - (intOf i).toNat)
  case atStart => exact ⟨0, Nat.zero_le _, rfl, okT_zero zs, Drew.refl _⟩
  case round =>
    obtain ⟨k, hk, rfl, HB, hd⟩ := hrel
    by_cases hlt : k < n
    · have hcell : wr.cell? ⟨b, off + k, none⟩ = some (.int .i64 (el zs k)) := hd.ints hc k (by rw [HN.out]; exact hlt)
      have s1 : IntKind.i64.wrap ((n : Int) - 1) = (n : Int) - 1 := IntWalk.i64_in _ (by omega)
      have i1 : (0 : Int) ≤ (k : Int) := by omega
      have i2 : (k : Int) < (n : Int) := by omega
      have i3 : (k : Int) ≤ (cap : Int) := by omega
      by_cases h1 : 0 ≤ el zs k ∧ el zs k ≤ (n : Int) - 1
      · have hin := inR_yes h1
        have hpc := fun (w' : World) => placeIn_c b off k cap (zs.take k) (el zs k) w' (by rw [List.length_take, HN.out]; omega) (by omega)
        have hct := IntsAt.take (hd.ints hc) k
        obtain ⟨q, hq⟩ : ∃ q, placeI (zs.take k) (el zs k) = q := ⟨_, rfl⟩
        rw [hq] at hpc
        have HQ : Hid (placeI (zs.take k) (el zs k) = q) := hq
        clear hq
        by_cases hq0 : 0 ≤ q
        · have hv : Hid (vTurn zs = false) := by
            refine vTurn_no (k := k) (by rw [HN.out]; exact hlt) ?_
            rintro ⟨_, _, h3⟩
            rcases placeI_cases (zs.take k) (el zs k) with ⟨hp, hall⟩ | ⟨j, hj, hp, he, _⟩
            · rw [HQ.out] at hp; omega
            · rw [List.length_take] at hj
              rw [el_take (by omega)] at he
              exact h3 j (by omega) he
          go_wp2_with fail
          go_quiet (first | (go_at_call 48; exact Calls.q (inRange_c _ _ _ _)) | (go_at_call 68; exact Calls.q (hpc _ (hct.drewN _))))
          go_wp2
          go_ret
          exact ⟨ret_bool hv.out.symm, (by repeat (first | exact Drew.refl _ | assumption | refine Drew.drewN ?_ _ | refine Drew.drew ?_))⟩
        · have hok : Hid (okT zs (k + 1)) := by
            refine okT_succ HB h1.1 (by rw [HN.out]; omega) fun j hj he => ?_
            rcases placeI_cases (zs.take k) (el zs k) with ⟨hp, hall⟩ | ⟨j', hj', hp, he', _⟩
            · exact hall j (by rw [List.length_take, HN.out]; omega) (by rw [el_take hj]; exact he)
            · rw [HQ.out] at hp; omega
          go_wp2_with fail
          go_quiet (first | (go_at_call 48; exact Calls.q (inRange_c _ _ _ _)) | (go_at_call 68; exact Calls.q (hpc _ (hct.drewN _))))
          go_wp2
          go_roundw
          case rel => exact ⟨k + 1, by omega, by go_num, hok.out, (by repeat (first | exact Drew.refl _ | assumption | refine Drew.drewN ?_ _ | refine Drew.drew ?_))⟩
          case measure => simp [intOf]; omega
      · have hin := inR_no h1
        have hv : Hid (vTurn zs = false) := vTurn_no (by rw [HN.out]; exact hlt) fun ⟨h2, h3, _⟩ => h1 ⟨h2, by rw [HN.out] at h3; omega⟩
        go_wp2_with fail
        go_quiet (first | (go_at_call 48; exact Calls.q (inRange_c _ _ _ _)))
        go_wp2
        go_ret
        exact ⟨ret_bool hv.out.symm, (by repeat (first | exact Drew.refl _ | assumption | refine Drew.drewN ?_ _ | refine Drew.drew ?_))⟩
    · obtain rfl : k = n := by omega
      have hv : Hid (vTurn zs = decide ((k : Int) ≤ 24)) := by
        show _ = _
        unfold vTurn
        rw [HN.out]
        simp only [HB, and_true]
        exact decide_eq_decide.2 (by omega)
      go_wp2
      go_ret
      exact ⟨ret_bool hv.out.symm, (by repeat (first | exact Drew.refl _ | assumption | refine Drew.drewN ?_ _ | refine Drew.drew ?_))⟩

theorem Try.infoBool : (Try.prog.info? 4).map (fun i => (i.zero, i.size, i.bytes)) = some (some (.bool false), 1, 1) := by kernel_rfl
/-- which of the first n numbers are among the first k of a list -/
def seenL (zs : List Int) (k n : Nat) : List Bool := (List.range n).map fun (x : Nat) => decide (∃ j, j < k ∧ el zs j = (x : Int))
theorem seenL_length (zs : List Int) (k n : Nat) : (seenL zs k n).length = n := by simp [seenL]
theorem seenL_get (zs : List Int) (k n x : Nat) (h : x < n) : ((seenL zs k n).map Value.bool)[x]? = some (.bool (decide (∃ j, j < k ∧ el zs j = (x : Int)))) := by simp [seenL, h]
theorem seenL_zero (zs : List Int) (n : Nat) : seenL zs 0 n = List.replicate n false := by
  apply List.ext_getElem (by simp [seenL])
  intro i h1 h2
  simp [seenL]
theorem seenL_step (zs : List Int) (k n x : Nat) (hx : el zs k = x) (h : x < n) : ((seenL zs k n).map Value.bool).set x (.bool true) = (seenL zs (k + 1) n).map Value.bool := by
  rw [← List.map_set]
  congr 1
  apply List.ext_getElem (by simp [seenL])
  intro i h1 h2
  simp only [List.getElem_set, seenL, List.getElem_map, List.getElem_range]
  by_cases e : x = i
  · subst e
    rw [if_pos rfl]
    exact (decide_eq_true ⟨k, by omega, hx⟩).symm
  · rw [if_neg e]
    apply decide_eq_decide.2
    constructor
    · rintro ⟨j, hj, he⟩; exact ⟨j, by omega, he⟩
    · rintro ⟨j, hj, he⟩
      by_cases e2 : j = k
      · subst e2; rw [hx] at he; omega
      · exact ⟨j, by omega, he⟩
theorem impl_isOrder_c (b off n cap : Nat) (zs : List Int) (w : World) (hn : zs.length = n) (hm : n ≤ 1048576) (hb : b < w.heap.size) (hc : IntsAt w b off zs) :
    Calls Try.prog 69 #[.slice (some ⟨b, off, none⟩) n cap, (.int .i64 ((n : Int)))] w (Rt (.bool (decide (okT zs n))) w) := by
  obtain ⟨i0, hi, hz0, hz1, hz2⟩ := info_parts Try.infoBool
  have HN : Hid (zs.length = n) := hn
  clear hn
  go_enter Try.func69, Try.ntmps69
  go_wp2_with (refine wpList_make_full _ rfl _ _ 51 rfl w.heap.size 4 i0 (.bool false) 1 Try.underlying51 hi hz0 hz1 .i64 .i64 _ _ n rfl rfl rfl rfl (by rw [hz2]; omega) (by unfold maxLen; omega) (Nat.le_refl _) ?_; intro w1 hown1 hgrow1)
  have ho1 : w1.ownsRow w.heap.size 4 1 (.slice (some ⟨w.heap.size, 0, none⟩) n n) n ((seenL zs 0 n).map Value.bool) := by
    have e : (madeCells (Value.bool false).cells (n * 1)).toList = (seenL zs 0 n).map Value.bool := by
      rw [show (Value.bool false).cells = #[Value.bool false] from rfl, toList_madeCells_one, seenL_zero]; simp
    rw [← e]; exact hown1
  have hb1 : Below w.heap.size w w1 := (Below.refl _ _).grown hgrow1 (Nat.le_refl _) (fun k hk => by cases hk)
  clear hown1 hgrow1
  go_loopw [7, 16] (fun _ i wr => ∃ k : Nat, k ≤ n ∧ i = .int .i64 k ∧ okT zs k ∧ wr.ownsRow w.heap.size 4 1 (.slice (some ⟨w.heap.size, 0, none⟩) n n) n ((seenL zs k n).map Value.bool) ∧ Below w.heap.size w wr) (fun _ i _ => n - (intOf i).toNat)
  case atStart => exact ⟨0, Nat.zero_le _, rfl, okT_zero zs, ho1, hb1⟩
  case round =>
    obtain ⟨k, hk, rfl, HB, ho, hbr⟩ := hrel
    clear ho1 hb1
    by_cases hlt : k < n
    · have hcell : wr.cell? ⟨b, off + k, none⟩ = some (.int .i64 (el zs k)) := (hc.below (hbr) hb) k (by rw [HN.out]; exact hlt)
      by_cases h1 : 0 ≤ el zs k ∧ el zs k < n
      · obtain ⟨x, hx⟩ : ∃ x : Nat, el zs k = x := ⟨(el zs k).toNat, by omega⟩
        have hxn : x < n := by omega
        have HX : Hid (el zs k = x) := hx
        have h2 : decide ((x : Int) < 0) = false := decide_eq_false (by omega)
        have h3 : decide ((n : Int) ≤ (x : Int)) = false := decide_eq_false (by omega)
        rw [hx] at hcell
        have hsc := ho.cellAt x (by omega)
        rw [seenL_get zs k n x hxn] at hsc
        have hfz := ho.frozenAt x
        have hst := ho.stored x (.bool true)
        by_cases hs : ∃ j, j < k ∧ el zs j = (x : Int)
        · rw [decide_eq_true hs] at hsc
          have hv : Hid (decide (okT zs n) = false) := decide_eq_false fun h => by
            obtain ⟨j, hj, he⟩ := hs
            exact (h k hlt).2.2 j hj (by rw [he, HX.out])
          clear hs hx h1
          go_wp2
          go_ret
          exact ⟨ret_bool hv.out.symm, hbr⟩
        · rw [decide_eq_false hs] at hsc
          have hok : Hid (okT zs (k + 1)) := okT_succ HB h1.1 (by rw [HN.out]; exact h1.2) fun j hj he => hs ⟨j, hj, by rw [he, HX.out]⟩
          clear hs hx h1
          go_wp2
          go_roundw
          case rel => exact ⟨k + 1, by omega, by go_num, hok.out, by rw [← seenL_step zs k n x HX.out hxn]; exact hst.1, hbr.setCell (Nat.le_refl _) _⟩
          case measure => simp [intOf]; omega
      · have hv : Hid (decide (okT zs n) = false) := decide_eq_false fun h => h1 ⟨(h k hlt).1, by have := (h k hlt).2.1; rw [HN.out] at this; exact this⟩
        go_wp2
        all_goals first | (exfalso; omega) | (go_ret; exact ⟨ret_bool hv.out.symm, hbr⟩)
    · obtain rfl : k = n := by omega
      go_wp2
      go_ret
      exact ⟨ret_bool (decide_eq_true HB).symm, hbr⟩
theorem impl_ValidTurn_c (b off n cap : Nat) (zs : List Int) (w : World) (hn : zs.length = n) (hm : n ≤ 1048576) (hb : b < w.heap.size) (hc : IntsAt w b off zs) :
    Calls Try.prog 55 #[.slice (some ⟨b, off, none⟩) n cap] w (Rt (.bool (vTurn zs)) w) := by
  by_cases h : n ≤ 24
  · have hv : Hid (vTurn zs = decide (okT zs n)) := by
      show _ = _
      unfold vTurn
      simp [hn, h]
    go_enter Try.func55, Try.ntmps55
    go_wp2_with (go_at_call 69; refine (impl_isOrder_c b off n cap zs w hn hm hb hc).mono ?_; rintro e w1 ⟨rfl, hb1⟩; obtain ⟨hc1, hf1, -, hz1⟩ := bcell hb1; (try simp at hz1); (try (have zw0 : w.heap.size < w1.heap.size := by omega)); (try (have zw1 : w.heap.size + 1 < w1.heap.size := by omega)); (try (have zw2 : w.heap.size + 1 + 1 < w1.heap.size := by omega)); (try (have zw3 : w.heap.size + 1 + 1 + 1 < w1.heap.size := by omega)); (try (have zw4 : w.heap.size + 1 + 1 + 1 + 1 < w1.heap.size := by omega)); (try (have zw5 : w.heap.size + 1 + 1 + 1 + 1 + 1 < w1.heap.size := by omega)))
    go_ret
    refine ⟨ret_bool hv.out.symm, ?_⟩
    (repeat' (first | exact Below.refl _ _ | refine Below.alloc ?_ ?_ _ | refine Below.setCell ?_ ?_ _ | refine Below.drew ?_ | refine below_drewN ?_ _ | refine Below.trans ?_ (Below.mono (by assumption) ?_))) <;> (try first | omega | (simp; done) | (simp at *; omega))
  · have hv : Hid (vTurn zs = false) := vTurn_long (by omega)
    go_enter Try.func55, Try.ntmps55
    go_wp2_with fail
    go_ret
    refine ⟨ret_bool hv.out.symm, ?_⟩
    (repeat' (first | exact Below.refl _ _ | refine Below.alloc ?_ ?_ _ | refine Below.setCell ?_ ?_ _ | refine Below.drew ?_ | refine below_drewN ?_ _ | refine Below.trans ?_ (Below.mono (by assumption) ?_))) <;> (try first | omega | (simp; done) | (simp at *; omega))
theorem placeIn_s {b off n cap : Nat} {zs : List Int} {x : Int} {w : World} (h : Sl w b off n cap zs) : Calls Try.prog 68 #[.slice (some ⟨b, off, none⟩) n cap, (.int .i64 x)] w (Rs (.int .i64 (placeI zs x)) w) := placeIn_c b off n cap zs x w h.len h.small h.ints
theorem spec_validTurn_s {b off n cap : Nat} {zs : List Int} {w : World} (h : Sl w b off n cap zs) : Calls Try.prog 53 #[.slice (some ⟨b, off, none⟩) n cap] w (Rd (.bool (vTurn zs)) w) := spec_validTurn_c b off n cap zs w h.len h.small h.cap1 h.cap2 h.ints
theorem impl_ValidTurn_s {b off n cap : Nat} {zs : List Int} {w : World} (h : Sl w b off n cap zs) : Calls Try.prog 55 #[.slice (some ⟨b, off, none⟩) n cap] w (Rt (.bool (vTurn zs)) w) := impl_ValidTurn_c b off n cap zs w h.len h.small h.lt h.ints
end Go.Proofs.Ytimfabpigpcjhaa
