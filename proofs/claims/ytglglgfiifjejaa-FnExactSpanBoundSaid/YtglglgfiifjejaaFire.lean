/- validGroups, fireTime and FireTime of spec, validTimes of impl; no statement is proved here. -/
import Derived.Test.YtglglgfiifjejaaPlFire
import Derived.Test.YtglglgfiifjejaaTurn
namespace Go.Proofs.Ytglglgfiifjejaa
open Go.ChangeShapes Go.WideShapes Go.ChangeAt Go.RowKit
set_option linter.unusedVariables false
set_option linter.unusedSimpArgs false

/-- at most 16 times, each in 0..500 -/
@[irreducible] def tmB (ts : List Int) (n : Nat) : Bool := decide (n ≤ 16 ∧ okTm ts n)
theorem tmB_iff {ts : List Int} {n : Nat} : tmB ts n = true ↔ n ≤ 16 ∧ okTm ts n := by unfold tmB; simp
theorem tmB_no {ts : List Int} {n : Nat} (h : ¬ (n ≤ 16 ∧ okTm ts n)) : tmB ts n = false := by
  unfold tmB; exact decide_eq_false h
theorem impl_validTimes_s {b off n cap : Nat} {ts : List Int} {w : World} (h : Sl w b off n cap ts) :
    Calls Try.prog 70 #[.slice (some ⟨b, off, none⟩) n cap] w (Rs (.bool (tmB ts n)) w) := by
  have hs := h.small
  have HN := mkhid h.len
  by_cases h1 : n ≤ 16
  · have d1 : decide ((16 : Int) < (n : Int)) = false := decide_eq_false (by omega)
    go_enter Try.func70, Try.ntmps70
    go_wp2_with fail
    go_loop [10] (fun i => ∃ k : Nat, k ≤ n ∧ i = .int .i64 k ∧ Hid (okTm ts k)) (fun i => n - (intOf i).toNat)
    case atStart => exact ⟨0, Nat.zero_le _, rfl, fun i hi => by omega⟩
    case round =>
      obtain ⟨k, hk, rfl, HB⟩ := hrel
      by_cases hlt : k < n
      · have hcell := h.cell hlt
        by_cases e1 : 0 ≤ el ts k
        · have f1 : decide (el ts k < 0) = false := decide_eq_false (by omega)
          by_cases e2 : el ts k ≤ 500
          · have f2 : decide (500 < el ts k) = false := decide_eq_false (by omega)
            have hok := mkhid (okTm_succ HB.out ⟨e1, e2⟩)
            clear e1 e2
            go_wp2
            go_round
            case rel => exact ⟨k + 1, by omega, by go_num, hok⟩
            case measure => simp [intOf]; omega
          · have f2 : decide (500 < el ts k) = true := decide_eq_true (by omega)
            have hv : Hid (tmB ts n = false) := tmB_no (fun hh => e2 (hh.2 k hlt).2)
            clear e1 e2
            go_wp2
            go_ret
            exact ⟨ret_bool hv.out.symm, rfl⟩
        · have f1 : decide (el ts k < 0) = true := decide_eq_true (by omega)
          have hv : Hid (tmB ts n = false) := tmB_no (fun hh => e1 (hh.2 k hlt).1)
          clear e1
          go_wp2
          go_ret
          exact ⟨ret_bool hv.out.symm, rfl⟩
      · have hkn := mkhid (show k = n by omega)
        have hv : Hid (tmB ts n = true) := tmB_iff.2 ⟨h1, hkn.out ▸ HB.out⟩
        go_wp2
        go_ret
        exact ⟨ret_bool hv.out.symm, rfl⟩
  · have d1 : decide ((16 : Int) < (n : Int)) = true := decide_eq_true (by omega)
    have hv : Hid (tmB ts n = false) := tmB_no (fun hh => h1 hh.1)
    go_enter Try.func70, Try.ntmps70
    go_wp2_with fail
    go_ret
    exact ⟨ret_bool hv.out.symm, rfl⟩
set_option maxHeartbeats 1000000 in
theorem spec_validGroups_s {b off n cap b' off' n' cap' : Nat} {ts gs : List Int} {room : Int} {w : World} (h : Sl w b off n cap ts) (h' : Sl w b' off' n' cap' gs) :
    Calls Try.prog 79 #[.slice (some ⟨b, off, none⟩) n cap, .slice (some ⟨b', off', none⟩) n' cap', (.int .i64 room)] w (Rd (.bool (fireOk ts gs room)) w) := by
  have hs := h.small
  have hs' := h'.small
  have HN := mkhid h.len
  have HM := mkhid h'.len
  go_enter Try.func79, Try.ntmps79
  go_wp2_with fail
  go_loop [7] (fun i => ∃ k : Nat, k ≤ n ∧ i = .int .i64 k ∧ Hid (okTm ts k)) (fun i => n - (intOf i).toNat)
  case atStart => exact ⟨0, Nat.zero_le _, rfl, fun i hi => by omega⟩
  case round =>
    obtain ⟨k, hk, rfl, HB⟩ := hrel
    by_cases hlt : k < n
    · have hcell := h.cell hlt
      by_cases h1 : 0 ≤ el ts k ∧ el ts k ≤ 500
      · have hin := inR_yes h1
        have hok := mkhid (okTm_succ HB.out h1)
        clear h1
        go_wp2_with (go_at_call 73; refine (inRange_c _ _ _ _).mono ?_; rintro e w1 ⟨rfl, rfl⟩)
        go_round
        case rel => exact ⟨k + 1, by omega, by go_num, hok⟩
        case measure => simp [intOf]; omega
      · have hin := inR_no h1
        have hg : Hid (fireOk ts gs room = false) := fireOk_no (fun hh => h1 (by have := hh.1 k (by rw [HN.out]; exact hlt); exact this))
        clear h1
        go_wp2_with (go_at_call 73; refine (inRange_c _ _ _ _).mono ?_; rintro e w1 ⟨rfl, rfl⟩)
        go_ret
        exact ⟨ret_bool hg.out.symm, Drew.refl _⟩
    · have hkn := mkhid (show k = n by omega)
      have HX := mkhid (hkn.out ▸ HB.out)
      clear HB
      by_cases hall : n ≤ 16 ∧ n' = n ∧ (1 ≤ room ∧ room ≤ 16)
      · obtain ⟨g1, rfl, g3⟩ := hall
        have d1 : decide ((16 : Int) < (n' : Int)) = false := decide_eq_false (by omega)
        have d2 : ((n' : Int) != (n' : Int)) = false := by simp
        have hin := inR_yes g3
        obtain ⟨r1, r2⟩ := g3
        go_wp2_with (go_at_call 73; refine (inRange_c _ _ _ _).mono ?_; rintro e w1 ⟨rfl, rfl⟩)
        go_loopw [8, 9, 10] (fun i _ _ wr => ∃ k : Nat, k ≤ n' ∧ i = .int .i64 k ∧ Hid (okGr gs room n' k) ∧ Drew w wr) (fun i _ _ _ => n' - (intOf i).toNat)
        case atStart => exact ⟨0, Nat.zero_le _, rfl, fun i hi => by omega, Drew.refl _⟩
        case round =>
          obtain ⟨q, hq, rfl, HQ, hd⟩ := hrel
          by_cases hqn : q < n'
          · have i1 : (0 : Int) ≤ (q : Int) := by omega
            have i2 : (q : Int) < (n' : Int) := by omega
            obtain ⟨x, hx⟩ : ∃ x, x = el gs q := ⟨_, rfl⟩
            have HX := mkhid hx
            clear hx
            obtain ⟨wo, hwo⟩ : ∃ wo : World, Hid (wo = wr) := ⟨_, rfl⟩
            rw [← hwo.out] at hd
            go_wp2_with fail
            go_loopw [9, 10] (fun c i wr => ∃ l : Nat, l ≤ n' ∧ i = .int .i64 l ∧ c = .int .i64 (cntF gs x l) ∧ Drew w wr) (fun _ i _ => n' - (intOf i).toNat)
            case atStart => exact ⟨0, Nat.zero_le _, rfl, by rw [cntF_zero]; rfl, hwo.out ▸ hd⟩
            case round =>
              obtain ⟨l, hl, rfl, rfl, hd2⟩ := hrel
              have hcl := cntF_le gs x l
              obtain ⟨cc, hcc⟩ : ∃ cc, cc = cntF gs x l := ⟨_, rfl⟩
              have hnx := cntF_succ gs x l
              rw [← hcc] at hcl hnx ⊢
              have c1 := (h'.drew hd2).cell hqn
              rw [← HX.out] at c1
              by_cases hln : l < n'
              · have j1 : (0 : Int) ≤ (l : Int) := by omega
                have j2 : (l : Int) < (n' : Int) := by omega
                have c2 := (h'.drew hd2).cell hln
                by_cases he : el gs l = x
                · have d3 : (el gs l == x) = true := by simpa using he
                  rw [if_pos he] at hnx
                  have HNX := mkhid hnx
                  clear hnx hcc he
                  go_wp2_with fail
                  go_quiet (fail)
                  go_wp2
                  go_roundw
                  case rel => exact ⟨l + 1, by omega, by go_num, by rw [HNX.out]; go_num, (by repeat (first | exact Drew.refl _ | assumption | refine Drew.drewN ?_ _ | refine Drew.drew ?_))⟩
                  case measure => simp [intOf]; omega
                · have d3 : (el gs l == x) = false := by simpa using he
                  rw [if_neg he] at hnx
                  have HNX := mkhid hnx
                  clear hnx hcc he
                  go_wp2_with fail
                  go_quiet (fail)
                  go_wp2
                  go_roundw
                  case rel => exact ⟨l + 1, by omega, by go_num, by rw [HNX.out], (by repeat (first | exact Drew.refl _ | assumption | refine Drew.drewN ?_ _ | refine Drew.drew ?_))⟩
                  case measure => simp [intOf]; omega
              · have hcn : Hid (cc = cntF gs x n') := by show _ = _; rw [hcc, show l = n' by omega]
                clear hcc hnx
                by_cases q1 : 0 ≤ x ∧ x ≤ 15
                · have hin2 := inR_yes q1
                  by_cases q2 : (cc : Int) ≤ room
                  · have d4 : decide (room < (cc : Int)) = false := decide_eq_false (by omega)
                    have hok := mkhid (okGr_succ HQ.out (by rw [← HX.out, ← hcn.out]; exact ⟨q1, q2⟩))
                    clear q1
                    go_wp2_with (go_at_call 73; refine (inRange_c _ _ _ _).mono ?_; rintro e w1 ⟨rfl, rfl⟩)
                    go_roundw
                    case rel => exact ⟨q + 1, by omega, by go_num, hok, hd2⟩
                    case measure => simp [intOf]; omega
                  · have d4 : decide (room < (cc : Int)) = true := decide_eq_true (by omega)
                    have hg : Hid (fireOk ts gs room = false) := fireOk_no (fun hh => q2 (by
                      have := (hh.2.2.2.2 q (by rw [HM.out]; exact hqn)).2
                      rw [HM.out, ← HX.out, ← hcn.out] at this; exact this))
                    clear q1
                    go_wp2_with (go_at_call 73; refine (inRange_c _ _ _ _).mono ?_; rintro e w1 ⟨rfl, rfl⟩)
                    go_ret
                    exact ⟨ret_bool hg.out.symm, hd2⟩
                · have hin2 := inR_no q1
                  have hg : Hid (fireOk ts gs room = false) := fireOk_no (fun hh => q1 (by
                    have := (hh.2.2.2.2 q (by rw [HM.out]; exact hqn)).1
                    rw [← HX.out] at this; exact this))
                  clear q1
                  go_wp2_with (go_at_call 73; refine (inRange_c _ _ _ _).mono ?_; rintro e w1 ⟨rfl, rfl⟩)
                  go_ret
                  exact ⟨ret_bool hg.out.symm, hd2⟩
          · have hqe := mkhid (show q = n' by omega)
            have hg : Hid (fireOk ts gs room = true) := fireOk_iff.2 ⟨by rw [HN.out]; exact HX.out, by rw [HN.out]; exact g1, by rw [HM.out, HN.out], ⟨r1, r2⟩, by rw [HM.out]; exact hqe.out ▸ HQ.out⟩
            go_wp2
            go_ret
            exact ⟨ret_bool hg.out.symm, hd⟩
      · have hg : Hid (fireOk ts gs room = false) := fireOk_no (fun hh => hall (by
          obtain ⟨_, a, b, c, _⟩ := hh
          rw [HN.out] at a b; rw [HM.out] at b; exact ⟨a, b, c⟩))
        by_cases q1 : n ≤ 16
        · have d1 : decide ((16 : Int) < (n : Int)) = false := decide_eq_false (by omega)
          by_cases q2 : n' = n
          · have d2 : ((n' : Int) != (n : Int)) = false := by simp; omega
            have hin := inR_no (fun hh => hall ⟨q1, q2, hh⟩)
            clear hall
            go_wp2_with (go_at_call 73; refine (inRange_c _ _ _ _).mono ?_; rintro e w1 ⟨rfl, rfl⟩)
            go_ret
            exact ⟨ret_bool hg.out.symm, Drew.refl _⟩
          · have d2 : ((n' : Int) != (n : Int)) = true := by simp; omega
            clear hall
            go_wp2_with fail
            go_ret
            exact ⟨ret_bool hg.out.symm, Drew.refl _⟩
        · have d1 : decide ((16 : Int) < (n : Int)) = true := decide_eq_true (by omega)
          clear hall
          go_wp2_with fail
          go_ret
          exact ⟨ret_bool hg.out.symm, Drew.refl _⟩
set_option maxHeartbeats 1000000 in
theorem spec_fireTime_s {b off n cap b' off' cap' : Nat} {ts gs : List Int} {w : World} (h : Sl w b off n cap ts) (h' : Sl w b' off' n cap' gs) (ht : okTm ts n) :
    Calls Try.prog 80 #[.slice (some ⟨b, off, none⟩) n cap, .slice (some ⟨b', off', none⟩) n cap'] w (Rd (.int .i64 (sumTo (fun g => lngF ts gs g n) 16)) w) := by
  have hs := h.small
  have HT := mkhid ht
  clear ht
  go_enter Try.func80, Try.ntmps80
  go_wp2_with fail
  go_loopw [5, 6, 7, 8] (fun s g _ _ wr => ∃ q : Nat, q ≤ 16 ∧ g = .int .i64 q ∧ s = .int .i64 (sumTo (fun g => lngF ts gs g n) q) ∧ Drew w wr) (fun _ g _ _ _ => 16 - (intOf g).toNat)
  case atStart => exact ⟨0, by omega, rfl, rfl, Drew.refl _⟩
  case round =>
    obtain ⟨q, hq, rfl, rfl, hd⟩ := hrel
    have hsb := sumTo_bd (f := fun g => lngF ts gs g n) (n := q) (c := 500) (fun i hi => lngF_bd HT.out n (Nat.le_refl _))
    obtain ⟨t, ht⟩ : ∃ t, t = sumTo (fun g => lngF ts gs g n) q := ⟨_, rfl⟩
    have hsu := mkhid (show sumTo (fun g => lngF ts gs g n) (q + 1) = t + lngF ts gs q n by rw [ht]; rfl)
    rw [← ht] at hsb ⊢
    have HTT := mkhid ht
    obtain ⟨b1, b2⟩ := hsb
    clear ht
    by_cases hq16 : q < 16
    · obtain ⟨wo, hwo⟩ : ∃ wo : World, Hid (wo = wr) := ⟨_, rfl⟩
      rw [← hwo.out] at hd
      go_wp2_with fail
      go_loopw [7, 8] (fun m i wr => ∃ l : Nat, l ≤ n ∧ i = .int .i64 l ∧ m = .int .i64 (lngF ts gs q l) ∧ Drew w wr) (fun _ i _ => n - (intOf i).toNat)
      case atStart => exact ⟨0, Nat.zero_le _, rfl, by rw [lngF_zero], hwo.out ▸ hd⟩
      case round =>
        obtain ⟨l, hl, rfl, rfl, hd2⟩ := hrel
        have hlb := lngF_bd (gs := gs) (g := (q : Int)) HT.out l hl
        obtain ⟨m, hm⟩ : ∃ m, m = lngF ts gs q l := ⟨_, rfl⟩
        have hnx := lngF_succ ts gs q l
        rw [← hm] at hlb hnx ⊢
        obtain ⟨m1, m2⟩ := hlb
        by_cases hln : l < n
        · have j1 : (0 : Int) ≤ (l : Int) := by omega
          have j2 : (l : Int) < (n : Int) := by omega
          have c1 := (h'.drew hd2).cell hln
          have c2 := (h.drew hd2).cell hln
          clear hm
          by_cases he : el gs l = (q : Int)
          · have d1 : (el gs l == (q : Int)) = true := by simpa using he
            rw [if_pos he] at hnx
            clear he
            by_cases hmx : m < el ts l
            · have d2 : decide (m < el ts l) = true := decide_eq_true hmx
              have HNX : Hid (lngF ts gs q (l + 1) = el ts l) := by show _ = _; rw [hnx]; omega
              clear hnx
              go_wp2_with fail
              go_roundw
              case rel => exact ⟨l + 1, by omega, by go_num, by rw [HNX.out], (by repeat (first | exact Drew.refl _ | assumption | refine Drew.drewN ?_ _ | refine Drew.drew ?_))⟩
              case measure => simp [intOf]; omega
            · have d2 : decide (m < el ts l) = false := decide_eq_false hmx
              have HNX : Hid (lngF ts gs q (l + 1) = m) := by show _ = _; rw [hnx]; omega
              clear hnx
              go_wp2_with fail
              go_roundw
              case rel => exact ⟨l + 1, by omega, by go_num, by rw [HNX.out], (by repeat (first | exact Drew.refl _ | assumption | refine Drew.drewN ?_ _ | refine Drew.drew ?_))⟩
              case measure => simp [intOf]; omega
          · have d1 : (el gs l == (q : Int)) = false := by simpa using he
            rw [if_neg he] at hnx
            have HNX := mkhid hnx
            clear he hnx
            go_wp2_with fail
            go_roundw
            case rel => exact ⟨l + 1, by omega, by go_num, by rw [HNX.out], (by repeat (first | exact Drew.refl _ | assumption | refine Drew.drewN ?_ _ | refine Drew.drew ?_))⟩
            case measure => simp [intOf]; omega
        · have hme : Hid (m = lngF ts gs q n) := by show _ = _; rw [hm, show l = n by omega]
          clear hm hnx
          go_wp2_with fail
          go_roundw
          case rel => exact ⟨q + 1, by omega, by go_num, by rw [hsu.out, ← hme.out], hd2⟩
          case measure => simp [intOf]; omega
    · have hqe := mkhid (show q = 16 by omega)
      go_wp2_with fail
      go_ret
      exact ⟨ret_int (by rw [HTT.out, hqe.out]), hd⟩
theorem spec_FireTime_s {b off n cap b' off' n' cap' : Nat} {ts gs : List Int} {room : Int} {w : World} (h : Sl w b off n cap ts) (h' : Sl w b' off' n' cap' gs) :
    Calls Try.prog 39 #[.slice (some ⟨b, off, none⟩) n cap, .slice (some ⟨b', off', none⟩) n' cap', (.int .i64 room)] w (Rd (.int .i64 (fireI ts gs room)) w) := by
  have C1 := spec_validGroups_s (room := room) h h'
  cases hv : fireOk ts gs room
  · have hi : Hid (fireI ts gs room = -1) := by show _ = _; unfold fireI; rw [hv]; rfl
    rw [hv] at C1
    clear hv
    go_enter Try.func39, Try.ntmps39
    go_wp2_with (go_at_call 79; refine C1.mono ?_; rintro e w1 ⟨rfl, hd1⟩)
    go_ret
    exact ⟨ret_int hi.out.symm, hd1⟩
  · have hi : Hid (fireI ts gs room = sumTo (fun g => lngF ts gs g n) 16) := by show _ = _; unfold fireI; rw [hv, if_pos rfl, h.len]
    rw [hv] at C1
    obtain ⟨a1, a2, a3, _, _⟩ := fireOk_iff.1 hv
    rw [h.len] at a1 a3
    rw [h'.len] at a3
    subst a3
    have C2 := fun (W : World) (hd : Drew w W) => spec_fireTime_s (h.drew hd) (h'.drew hd) a1
    clear hv a1
    go_enter Try.func39, Try.ntmps39
    go_wp2_with (first | (go_at_call 79; refine C1.mono ?_; rintro e w1 ⟨rfl, hd1⟩) | (go_at_call 80; refine (C2 _ hd1).mono ?_; rintro e w2 ⟨rfl, hd2⟩))
    go_ret
    exact ⟨ret_int hi.out.symm, hd1.trans hd2⟩
end Go.Proofs.Ytglglgfiifjejaa
