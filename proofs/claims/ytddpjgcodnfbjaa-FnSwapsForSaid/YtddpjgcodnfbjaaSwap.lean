/- SwapsFor and LiftsOf (spec and impl); no statement is proved here. -/
import Derived.Test.YtddpjgcodnfbjaaCopy
namespace Go.Proofs.Ytddpjgcodnfbjaa
open Go.ChangeShapes Go.WideShapes Go.ChangeAt Go.RowKit
set_option linter.unusedVariables false
set_option linter.unusedSimpArgs false

/-- a pair of panes in the wrong order on one stack -/
def liftF (xs ss : List Int) (i k : Nat) : Int := if el ss i = el ss k ∧ el xs i < el xs k then 1 else 0
theorem liftF_bd (xs ss : List Int) (i k : Nat) : 0 ≤ liftF xs ss i k ∧ liftF xs ss i k ≤ 1 := by unfold liftF; split <;> omega
@[irreducible] def lS (xs ss : List Int) (i d : Nat) : Int := sumTo (fun d => liftF xs ss i (i + 1 + d)) d
@[irreducible] def lA (xs ss : List Int) (N i : Nat) : Int := sumTo (fun i => lS xs ss i (N - 1 - i)) i
theorem lS_zero (xs ss : List Int) (i : Nat) : lS xs ss i 0 = 0 := by unfold lS; rfl
theorem lS_succ (xs ss : List Int) (i d : Nat) : lS xs ss i (d + 1) = lS xs ss i d + liftF xs ss i (i + 1 + d) := by unfold lS; rfl
theorem lA_zero (xs ss : List Int) (N : Nat) : lA xs ss N 0 = 0 := by unfold lA; rfl
theorem lA_succ (xs ss : List Int) (N i : Nat) : lA xs ss N (i + 1) = lA xs ss N i + lS xs ss i (N - 1 - i) := by unfold lA; rfl
theorem lS_bd (xs ss : List Int) (i d : Nat) : 0 ≤ lS xs ss i d ∧ lS xs ss i d ≤ d := by
  unfold lS
  have := sumTo_bd (f := fun d => liftF xs ss i (i + 1 + d)) (n := d) (c := 1) (fun j _ => liftF_bd _ _ _ _)
  omega
theorem lA_bd (xs ss : List Int) (N i : Nat) (hN : N ≤ 24) (hi : i ≤ 24) : 0 ≤ lA xs ss N i ∧ lA xs ss N i ≤ 576 := by
  unfold lA
  have := sumTo_bd (f := fun i => lS xs ss i (N - 1 - i)) (n := i) (c := 24) (fun j _ => by have := lS_bd xs ss j (N - 1 - j); omega)
  omega
theorem lA_pairs (xs ss : List Int) (N : Nat) : lA xs ss N N = pairsA (liftF xs ss) N := by unfold lA lS; rfl

theorem spec_liftsOf_s {b off n cap b' off' cap' : Nat} {xs ss : List Int} {w : World} (h : Sl w b off n cap xs) (h' : Sl w b' off' n cap' ss) (hn : n ≤ 24) :
    Calls Try.prog 81 #[.slice (some ⟨b, off, none⟩) n cap, .slice (some ⟨b', off', none⟩) n cap'] w (Rd (.int .i64 (pairsA (liftF xs ss) n)) w) := by
  go_enter Try.func81, Try.ntmps81
  go_wp2_with fail
  go_loopw [5, 6, 7] (fun c i _ wr => ∃ k : Nat, k ≤ n ∧ i = .int .i64 k ∧ c = .int .i64 (lA xs ss n k) ∧ Drew w wr) (fun _ i _ _ => n - (intOf i).toNat)
  case atStart => exact ⟨0, Nat.zero_le _, rfl, by rw [lA_zero], Drew.refl _⟩
  case round =>
    obtain ⟨i, hi, rfl, rfl, hd⟩ := hrel
    have hA := lA_bd xs ss n i hn (by omega)
    by_cases hlt : i < n
    · go_wp2_with fail
      obtain ⟨wo, hwo⟩ : ∃ wo : World, wo = wr := ⟨_, rfl⟩
      have hdo : Drew w wo := hwo ▸ hd
      clear hwo
      go_loopw [5, 7] (fun c k wr => ∃ d : Nat, d ≤ n - 1 - i ∧ k = .int .i64 ((i : Int) + 1 + d) ∧ c = .int .i64 (lA xs ss n i + lS xs ss i d) ∧ Drew w wr) (fun _ k _ => n - (intOf k).toNat)
      case atStart => exact ⟨0, Nat.zero_le _, by simp, by rw [lS_zero]; simp, hd⟩
      case round =>
        obtain ⟨d, hdd, rfl, rfl, hd2⟩ := hrel
        have hS := lS_bd xs ss i d
        by_cases hlt2 : i + 1 + d < n
        · have c1 := (h'.drew hd2).cell hlt
          have c2 := (h'.drew hd2).cell hlt2
          have c3 := (h.drew hd2).cell hlt
          have c4 := (h.drew hd2).cell hlt2
          have i1 : (0 : Int) ≤ (i : Int) := by omega
          have i2 : (i : Int) < (n : Int) := by omega
          have i3 : (0 : Int) ≤ (i : Int) + 1 + d := by omega
          have i4 : (i : Int) + 1 + d < (n : Int) := by omega
          have i5 : ((i : Int) + 1 + d).toNat = i + 1 + d := by omega
          have hsucc : Hid (lS xs ss i (d + 1) = lS xs ss i d + liftF xs ss i (i + 1 + d)) := lS_succ _ _ _ _
          by_cases he : el ss i = el ss (i + 1 + d)
          · have he' : (el ss i == el ss (i + 1 + d)) = true := by simpa using he
            by_cases hx : el xs i < el xs (i + 1 + d)
            · have hx' : decide (el xs i < el xs (i + 1 + d)) = true := decide_eq_true hx
              have hf : Hid (liftF xs ss i (i + 1 + d) = 1) := by show _ = _; unfold liftF; rw [if_pos ⟨he, hx⟩]
              clear he
              go_wp2_with fail
              go_quiet (fail)
              go_wp2
              go_roundw
              case rel => exact ⟨d + 1, by omega, by go_num, by rw [hsucc.out, hf.out]; go_num, (by repeat (first | exact Drew.refl _ | assumption | refine Drew.drewN ?_ _ | refine Drew.drew ?_))⟩
              case measure => simp [intOf]; omega
            · have hx' : decide (el xs i < el xs (i + 1 + d)) = false := decide_eq_false hx
              have hf : Hid (liftF xs ss i (i + 1 + d) = 0) := by show _ = _; unfold liftF; rw [if_neg (fun hh => hx hh.2)]
              clear he
              go_wp2_with fail
              go_quiet (fail)
              go_wp2
              go_roundw
              case rel => exact ⟨d + 1, by omega, by go_num, by rw [hsucc.out, hf.out]; go_num, (by repeat (first | exact Drew.refl _ | assumption | refine Drew.drewN ?_ _ | refine Drew.drew ?_))⟩
              case measure => simp [intOf]; omega
          · have he' : (el ss i == el ss (i + 1 + d)) = false := by simpa using he
            have hf : Hid (liftF xs ss i (i + 1 + d) = 0) := by show _ = _; unfold liftF; rw [if_neg (fun hh => he hh.1)]
            go_wp2_with fail
            go_quiet (fail)
            go_wp2
            go_roundw
            case rel => exact ⟨d + 1, by omega, by go_num, by rw [hsucc.out, hf.out]; go_num, (by repeat (first | exact Drew.refl _ | assumption | refine Drew.drewN ?_ _ | refine Drew.drew ?_))⟩
            case measure => simp [intOf]; omega
        · have hdn : d = n - 1 - i := by omega
          have hsA : Hid (lA xs ss n (i + 1) = lA xs ss n i + lS xs ss i d) := by show _ = _; rw [lA_succ, hdn]
          go_wp2
          go_roundw
          case rel => exact ⟨i + 1, by omega, by go_num, by rw [hsA.out], (by repeat (first | exact Drew.refl _ | assumption | refine Drew.drewN ?_ _ | refine Drew.drew ?_))⟩
          case measure => simp [intOf]; omega
    · have hin : i = n := by omega
      have hv : Hid (lA xs ss n i = pairsA (liftF xs ss) n) := by show _ = _; rw [hin, lA_pairs]
      clear hin
      go_wp2
      go_ret
      exact ⟨ret_int hv.out, (by repeat (first | exact Drew.refl _ | assumption | refine Drew.drewN ?_ _ | refine Drew.drew ?_))⟩
/-- pairs counted by the index that comes later -/
@[irreducible] def bS (F : Nat → Nat → Int) (i j : Nat) : Int := sumTo (fun j => F j i) j
@[irreducible] def bA (F : Nat → Nat → Int) (i : Nat) : Int := sumTo (fun i => bS F i i) i
theorem bS_zero (F : Nat → Nat → Int) (i : Nat) : bS F i 0 = 0 := by unfold bS; rfl
theorem bS_succ (F : Nat → Nat → Int) (i j : Nat) : bS F i (j + 1) = bS F i j + F j i := by unfold bS; rfl
theorem bA_zero (F : Nat → Nat → Int) : bA F 0 = 0 := by unfold bA; rfl
theorem bA_succ (F : Nat → Nat → Int) (i : Nat) : bA F (i + 1) = bA F i + bS F i i := by unfold bA; rfl
theorem bS_bd {F : Nat → Nat → Int} (hF : ∀ i k, 0 ≤ F i k ∧ F i k ≤ 1) (i j : Nat) : 0 ≤ bS F i j ∧ bS F i j ≤ j := by
  unfold bS
  have := sumTo_bd (f := fun j => F j i) (n := j) (c := 1) (fun j _ => hF _ _)
  omega
theorem bA_bd {F : Nat → Nat → Int} (hF : ∀ i k, 0 ≤ F i k ∧ F i k ≤ 1) (i : Nat) (hi : i ≤ 24) : 0 ≤ bA F i ∧ bA F i ≤ 576 := by
  unfold bA
  have := sumTo_bd (f := fun i => bS F i i) (n := i) (c := 24) (fun j hj => by have := bS_bd hF j j; omega)
  omega
theorem bA_pairs (F : Nat → Nat → Int) (N : Nat) : bA F N = pairsB F N := by unfold bA bS; rfl
/-- a pair of which the one that comes first is delivered later -/
def invF (xs : List Int) (j i : Nat) : Int := if el xs i < el xs j then 1 else 0
theorem invF_bd (xs : List Int) (i k : Nat) : 0 ≤ invF xs i k ∧ invF xs i k ≤ 1 := by unfold invF; split <;> omega
def swapsI (zs : List Int) : Int := if vTurn zs = true then pairsB (invF zs) zs.length else -1
theorem swaps_rev (xs ss : List Int) (n : Nat) (hn : xs.length = n) (hs : ∀ i k, i < n → k < n → el ss i = el ss k) : pairsA (liftF xs.reverse ss) n = pairsB (invF xs) n := by
  rw [← pairs_rev]
  unfold pairsA
  refine sumTo_congr fun i hi => sumTo_congr fun d hd => ?_
  unfold liftF invF
  rw [rev_el hn hi, rev_el hn (by omega)]
  have := hs i (i + 1 + d) hi (by omega)
  simp [this]

theorem impl_SwapsFor_s {b off n cap : Nat} {zs : List Int} {w : World} (h : Sl w b off n cap zs) :
    Calls Try.prog 44 #[.slice (some ⟨b, off, none⟩) n cap] w (Rt (.int .i64 (swapsI zs)) w) := by
  cases hv : vTurn zs
  · have HI : Hid (swapsI zs = -1) := by show _ = _; unfold swapsI; rw [hv]; rfl
    go_enter Try.func44, Try.ntmps44
    go_wp2_with (go_at_call 28; refine (impl_ValidTurn_s h).mono ?_; rintro e w1 ⟨rfl, hb1⟩; obtain ⟨hc1, hf1, -, hz1⟩ := bcell hb1; (try simp at hz1); (try (have zw0 : w.heap.size < w1.heap.size := by omega)); (try (have zw1 : w.heap.size + 1 < w1.heap.size := by omega)); (try (have zw2 : w.heap.size + 1 + 1 < w1.heap.size := by omega)); (try (have zw3 : w.heap.size + 1 + 1 + 1 < w1.heap.size := by omega)); (try (have zw4 : w.heap.size + 1 + 1 + 1 + 1 < w1.heap.size := by omega)); (try (have zw5 : w.heap.size + 1 + 1 + 1 + 1 + 1 < w1.heap.size := by omega)))
    go_ret
    refine ⟨ret_int HI.out.symm, ?_⟩
    (repeat' (first | exact Below.refl _ _ | refine Below.alloc ?_ ?_ _ | refine Below.setCell ?_ ?_ _ | refine Below.drew ?_ | refine below_drewN ?_ _ | refine Below.trans ?_ (Below.mono (by assumption) ?_))) <;> (try first | omega | (simp; done) | (simp at *; omega))
  · have hn24 : n ≤ 24 := by have := (vTurn_iff.1 hv).1; rwa [h.len] at this
    have HI : Hid (swapsI zs = pairsB (invF zs) n) := by show _ = _; unfold swapsI; rw [hv, if_pos rfl, h.len]
    go_enter Try.func44, Try.ntmps44
    go_wp2_with (go_at_call 28; refine (impl_ValidTurn_s h).mono ?_; rintro e w1 ⟨rfl, hb1⟩)
    go_loopw [3, 4, 5, 11, 15] (fun c _ _ i _ wr => ∃ k : Nat, k ≤ n ∧ i = .int .i64 k ∧ c = .int .i64 (bA (invF zs) k) ∧ Below w.heap.size w wr) (fun _ _ _ i _ _ => n - (intOf i).toNat)
    case atStart => exact ⟨0, Nat.zero_le _, rfl, by rw [bA_zero], hb1⟩
    case round =>
      obtain ⟨i, hi, rfl, rfl, hbr⟩ := hrel
      have hA := bA_bd (invF_bd zs) i (by omega)
      clear hb1
      by_cases hlt : i < n
      · go_wp2_with fail
        obtain ⟨wo, hwo⟩ : ∃ wo : World, wo = wr := ⟨_, rfl⟩
        clear hwo
        go_loopw [3, 5, 15] (fun c _ j wr => ∃ d : Nat, d ≤ i ∧ j = .int .i64 d ∧ c = .int .i64 (bA (invF zs) i + bS (invF zs) i d) ∧ Below w.heap.size w wr) (fun _ _ j _ => i - (intOf j).toNat)
        case atStart => exact ⟨0, Nat.zero_le _, rfl, by rw [bS_zero]; simp, hbr⟩
        case round =>
          obtain ⟨d, hdd, rfl, rfl, hb2⟩ := hrel
          have hS := bS_bd (invF_bd zs) i d
          by_cases hlt2 : d < i
          · have c1 := (h.below hb2).cell hlt
            have c2 := (h.below hb2).cell (k := d) (by omega)
            have i1 : (0 : Int) ≤ (i : Int) := by omega
            have i2 : (i : Int) < (n : Int) := by omega
            have i3 : (0 : Int) ≤ (d : Int) := by omega
            have i4 : (d : Int) < (n : Int) := by omega
            have hsucc : Hid (bS (invF zs) i (d + 1) = bS (invF zs) i d + invF zs d i) := bS_succ _ _ _
            by_cases hx : el zs i < el zs d
            · have hx' : decide (el zs i < el zs d) = true := decide_eq_true hx
              have hf : Hid (invF zs d i = 1) := by show _ = _; unfold invF; rw [if_pos hx]
              go_wp2_with fail
              go_quiet (fail)
              go_wp2
              go_roundw
              case rel => exact ⟨d + 1, by omega, by go_num, by rw [hsucc.out, hf.out]; go_num, by (repeat' (first | exact Below.refl _ _ | refine Below.alloc ?_ ?_ _ | refine Below.setCell ?_ ?_ _ | refine Below.drew ?_ | refine below_drewN ?_ _ | refine Below.trans ?_ (Below.mono (by assumption) ?_))) <;> (try first | omega | (simp; done) | (simp at *; omega))⟩
              case measure => simp [intOf]; omega
            · have hx' : decide (el zs i < el zs d) = false := decide_eq_false hx
              have hf : Hid (invF zs d i = 0) := by show _ = _; unfold invF; rw [if_neg hx]
              go_wp2_with fail
              go_quiet (fail)
              go_wp2
              go_roundw
              case rel => exact ⟨d + 1, by omega, by go_num, by rw [hsucc.out, hf.out]; go_num, by (repeat' (first | exact Below.refl _ _ | refine Below.alloc ?_ ?_ _ | refine Below.setCell ?_ ?_ _ | refine Below.drew ?_ | refine below_drewN ?_ _ | refine Below.trans ?_ (Below.mono (by assumption) ?_))) <;> (try first | omega | (simp; done) | (simp at *; omega))⟩
              case measure => simp [intOf]; omega
          · have hdn : d = i := by omega
            have hsA : Hid (bA (invF zs) (i + 1) = bA (invF zs) i + bS (invF zs) i d) := by show _ = _; rw [bA_succ, hdn]
            go_wp2
            go_roundw
            case rel => exact ⟨i + 1, by omega, by go_num, by rw [hsA.out], hb2⟩
            case measure => simp [intOf]; omega
      · have hin : i = n := by omega
        have hv2 : Hid (bA (invF zs) i = swapsI zs) := by show _ = _; rw [HI.out, hin, bA_pairs]
        clear hin
        go_wp2
        go_ret
        exact ⟨ret_int hv2.out, hbr⟩
end Go.Proofs.Ytddpjgcodnfbjaa
