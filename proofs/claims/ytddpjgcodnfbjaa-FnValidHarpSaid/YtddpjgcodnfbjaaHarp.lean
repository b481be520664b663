/- ValidHarp (spec and impl), slices.Index; no statement is proved here. -/
import Derived.Test.YtddpjgcodnfbjaaTurn
namespace Go.Proofs.Ytddpjgcodnfbjaa
open Go.ChangeShapes Go.WideShapes Go.ChangeAt Go.RowKit
set_option linter.unusedVariables false
set_option linter.unusedSimpArgs false

theorem sIndex_s {b off n cap : Nat} {zs : List Int} {x : Int} {w : World} (h : Sl w b off n cap zs) :
    Calls Try.prog 60 #[.slice (some ⟨b, off, none⟩) n cap, (.int .i64 x)] w (Rs (.int .i64 (placeI zs x)) w) := by
  have HN : Hid (zs.length = n) := h.len
  have hs := h.small
  go_enter Try.func60, Try.ntmps60
  go_wp2_with fail
  go_loop [5, 8] (fun _ i => ∃ k : Nat, k ≤ n ∧ i = .int .i64 k ∧ Hid (∀ j, j < k → el zs j ≠ x)) (fun _ i => n - (intOf i).toNat)
  case atStart => exact ⟨0, Nat.zero_le _, rfl, fun j hj => by omega⟩
  case round =>
    obtain ⟨k, hk, rfl, HB⟩ := hrel
    by_cases hlt : k < n
    · have hcell := h.cell hlt
      by_cases he : el zs k = x
      · have he' : (x == el zs k) = true := by simpa using he.symm
        have HE : Hid (placeI zs x = k) := placeI_hit (by rw [HN.out]; exact hlt) he HB.out
        clear he
        go_wp2
        go_ret
        exact ⟨ret_int HE.out.symm, rfl⟩
      · have he' : (x == el zs k) = false := by simpa using fun e => he e.symm
        go_wp2
        go_round
        case rel => exact ⟨k + 1, by omega, by go_num, fun j hj => (by by_cases e : j = k; exact e ▸ he; exact HB.out j (by omega))⟩
        case measure => simp [intOf]; omega
    · have HE : Hid (placeI zs x = -1) := placeI_none (fun j hj => HB.out j (by rw [HN.out] at hj; omega))
      go_wp2
      go_ret
      exact ⟨ret_int HE.out.symm, rfl⟩
theorem spec_validHarp_s {b off n cap : Nat} {zs : List Int} {w : World} (h : Sl w b off n cap zs) :
    Calls Try.prog 62 #[.slice (some ⟨b, off, none⟩) n cap] w (Rd (.bool (vHarp zs)) w) := by
  have HN : Hid (zs.length = n) := h.len
  have hs := h.small
  have hcp := h.cap1
  have hcm := h.cap2
  unfold maxLen at hcm
  go_enter Try.func62, Try.ntmps62
  go_wp2_with fail
  go_loopw [3] (fun i wr => ∃ k : Nat, k ≤ n ∧ i = .int .i64 k ∧ okH zs k ∧ Drew w wr) (fun i _ => n - (intOf i).toNat)
  case atStart => exact ⟨0, Nat.zero_le _, rfl, okH_zero zs, Drew.refl _⟩
  case round =>
    obtain ⟨k, hk, rfl, HB, hd⟩ := hrel
    by_cases hlt : k < n
    · have hcell := (h.drew hd).cell hlt
      have i1 : (0 : Int) ≤ (k : Int) := by omega
      have i2 : (k : Int) < (n : Int) := by omega
      have i3 : (k : Int) ≤ (cap : Int) := by omega
      by_cases h1 : 0 ≤ el zs k ∧ el zs k ≤ 9999
      · have hin := inR_yes h1
        have htk := (h.drew hd).take (Nat.le_of_lt hlt)
        obtain ⟨q, hq⟩ : ∃ q, placeI (zs.take k) (el zs k) = q := ⟨_, rfl⟩
        have hpc : ∀ m, Calls Try.prog 64 #[.slice (some ⟨b, off, none⟩) k cap, (.int .i64 (el zs k))] (wr.drewN m) (Rs (.int .i64 q) (wr.drewN m)) := fun m => hq ▸ placeIn_s (htk.drewN m)
        have HQ : Hid (placeI (zs.take k) (el zs k) = q) := hq
        clear hq
        by_cases hp : 0 < el zs k
        · have hp' : decide (0 < el zs k) = true := decide_eq_true hp
          by_cases hq0 : 0 ≤ q
          · have hv : Hid (vHarp zs = false) := by
              refine vHarp_no (k := k) (by rw [HN.out]; exact hlt) ?_
              rintro ⟨_, _, h3⟩
              rcases placeI_cases (zs.take k) (el zs k) with ⟨hp, hall⟩ | ⟨j, hj, hp, he, _⟩
              · rw [HQ.out] at hp; omega
              · rw [List.length_take] at hj
                rw [el_take (by omega)] at he
                exact h3 (by omega) j (by omega) he
            go_wp2_with fail
            go_quiet (first | (go_at_call 63; exact Calls.q (inRange_c _ _ _ _)) | (go_at_call 64; exact Calls.q (hpc _)))
            go_wp2
            go_ret
            exact ⟨ret_bool hv.out.symm, (by repeat (first | exact Drew.refl _ | assumption | refine Drew.drewN ?_ _ | refine Drew.drew ?_))⟩
          · have hok : Hid (okH zs (k + 1)) := by
              refine okH_succ HB h1.1 h1.2 fun _ j hj he => ?_
              rcases placeI_cases (zs.take k) (el zs k) with ⟨hp, hall⟩ | ⟨j', hj', hp, he', _⟩
              · exact hall j (by rw [List.length_take, HN.out]; omega) (by rw [el_take hj]; exact he)
              · rw [HQ.out] at hp; omega
            go_wp2_with fail
            go_quiet (first | (go_at_call 63; exact Calls.q (inRange_c _ _ _ _)) | (go_at_call 64; exact Calls.q (hpc _)))
            go_wp2
            go_roundw
            case rel => exact ⟨k + 1, by omega, by go_num, hok.out, (by repeat (first | exact Drew.refl _ | assumption | refine Drew.drewN ?_ _ | refine Drew.drew ?_))⟩
            case measure => simp [intOf]; omega
        · have hp' : decide (0 < el zs k) = false := decide_eq_false hp
          have hok : Hid (okH zs (k + 1)) := okH_succ HB h1.1 h1.2 fun h0 => absurd h0 hp
          go_wp2_with fail
          go_quiet (first | (go_at_call 63; exact Calls.q (inRange_c _ _ _ _)) | (go_at_call 64; exact Calls.q (hpc _)))
          go_wp2
          go_roundw
          case rel => exact ⟨k + 1, by omega, by go_num, hok.out, (by repeat (first | exact Drew.refl _ | assumption | refine Drew.drewN ?_ _ | refine Drew.drew ?_))⟩
          case measure => simp [intOf]; omega
      · have hin := inR_no h1
        have hv : Hid (vHarp zs = false) := vHarp_no (by rw [HN.out]; exact hlt) fun ⟨h2, h3, _⟩ => h1 ⟨h2, h3⟩
        go_wp2_with fail
        go_quiet (first | (go_at_call 63; exact Calls.q (inRange_c _ _ _ _)))
        go_wp2
        go_ret
        exact ⟨ret_bool hv.out.symm, (by repeat (first | exact Drew.refl _ | assumption | refine Drew.drewN ?_ _ | refine Drew.drew ?_))⟩
    · obtain rfl : k = n := by omega
      have hv : Hid (vHarp zs = decide ((k : Int) ≤ 20)) := by
        show _ = _
        unfold vHarp
        rw [HN.out]
        simp only [HB, and_true]
        exact decide_eq_decide.2 (by omega)
      go_wp2
      go_ret
      exact ⟨ret_bool hv.out.symm, (by repeat (first | exact Drew.refl _ | assumption | refine Drew.drewN ?_ _ | refine Drew.drew ?_))⟩
theorem spec_ValidHarp_s {b off n cap : Nat} {zs : List Int} {w : World} (h : Sl w b off n cap zs) :
    Calls Try.prog 22 #[.slice (some ⟨b, off, none⟩) n cap] w (Rd (.bool (vHarp zs)) w) := by
  go_enter Try.func22, Try.ntmps22
  go_wp2_with (go_at_call 62; refine (spec_validHarp_s h).mono ?_; rintro e w1 ⟨rfl, d1, rfl⟩)
  go_ret
  exact ⟨rfl, (by repeat (first | exact Drew.refl _ | assumption | refine Drew.drewN ?_ _ | refine Drew.drew ?_))⟩
theorem impl_ValidHarp_s {b off n cap : Nat} {zs : List Int} {w : World} (h : Sl w b off n cap zs) :
    Calls Try.prog 21 #[.slice (some ⟨b, off, none⟩) n cap] w (Rs (.bool (vHarp zs)) w) := by
  have HN : Hid (zs.length = n) := h.len
  have hs := h.small
  by_cases h20 : n ≤ 20
  · go_enter Try.func21, Try.ntmps21
    go_wp2_with fail
    go_loop [3, 4, 10] (fun _ _ i => ∃ k : Nat, k ≤ n ∧ i = .int .i64 k ∧ okH zs k) (fun _ _ i => n - (intOf i).toNat)
    case atStart => exact ⟨0, Nat.zero_le _, rfl, okH_zero zs⟩
    case round =>
      obtain ⟨k, hk, rfl, HB⟩ := hrel
      by_cases hlt : k < n
      · have hcell := h.cell hlt
        by_cases h1 : 0 ≤ el zs k ∧ el zs k ≤ 9999
        · obtain ⟨h1a, h1b⟩ := h1
          by_cases hp : el zs k = 0
          · have hp' : (el zs k != 0) = false := by simpa using hp
            have hok : Hid (okH zs (k + 1)) := okH_succ HB h1a h1b fun h0 => by omega
            clear hp
            go_wp2
            go_round
            case rel => exact ⟨k + 1, by omega, by go_num, hok.out⟩
            case measure => simp [intOf]; omega
          · have hp' : (el zs k != 0) = true := by simpa using hp
            obtain ⟨q, hq⟩ : ∃ q, placeI zs (el zs k) = q := ⟨_, rfl⟩
            have hpc : Calls Try.prog 60 #[.slice (some ⟨b, off, none⟩) n cap, (.int .i64 (el zs k))] w (Rs (.int .i64 q) w) := hq ▸ sIndex_s h
            have HQ : Hid (placeI zs (el zs k) = q) := hq
            clear hq
            have hcs : (q = k ∧ ∀ j, j < k → el zs j ≠ el zs k) ∨ (q ≠ k ∧ ¬ ∀ j, j < k → el zs j ≠ el zs k) := by
              rcases placeI_cases zs (el zs k) with ⟨_, hall⟩ | ⟨j, hj, hq, he, hb⟩
              · exact absurd rfl (hall k (by rw [HN.out]; exact hlt))
              · rw [HQ.out] at hq
                by_cases e : j = k
                · subst e; exact .inl ⟨hq, hb⟩
                · refine .inr ⟨by omega, fun hh => ?_⟩
                  by_cases e2 : j < k
                  · exact hh j e2 he
                  · exact hb k (by omega) rfl
            rcases hcs with ⟨hqk, hb⟩ | ⟨hqk, hb⟩
            · have hok : Hid (okH zs (k + 1)) := okH_succ HB h1a h1b fun _ => hb
              have hqk' : (q != (k : Int)) = false := by simpa using hqk
              clear hqk hb
              go_wp2_with (go_at_call 60; refine hpc.mono ?_; rintro e w1 ⟨rfl, rfl⟩)
              go_round
              case rel => exact ⟨k + 1, by omega, by go_num, hok.out⟩
              case measure => simp [intOf]; omega
            · have hv : Hid (vHarp zs = false) := vHarp_no (by rw [HN.out]; exact hlt) fun ⟨_, _, h3⟩ => hb (h3 (by omega))
              have hqk' : (q != (k : Int)) = true := by simpa using hqk
              clear hqk hb
              go_wp2_with (go_at_call 60; refine hpc.mono ?_; rintro e w1 ⟨rfl, rfl⟩)
              go_ret
              exact ⟨ret_bool hv.out.symm, rfl⟩
        · have hv : Hid (vHarp zs = false) := vHarp_no (by rw [HN.out]; exact hlt) fun ⟨h2, h3, _⟩ => h1 ⟨h2, h3⟩
          go_wp2
          all_goals first | (exfalso; omega) | (go_ret; exact ⟨ret_bool hv.out.symm, rfl⟩)
      · obtain rfl : k = n := by omega
        have hv : Hid (vHarp zs = true) := vHarp_yes (by rw [HN.out]; exact h20) (by rw [HN.out]; exact HB)
        go_wp2
        go_ret
        exact ⟨ret_bool hv.out.symm, rfl⟩
  · have hv : Hid (vHarp zs = false) := vHarp_long (by rw [HN.out]; exact h20)
    go_enter Try.func21, Try.ntmps21
    go_wp2
    go_ret
    exact ⟨ret_bool hv.out.symm, rfl⟩
end Go.Proofs.Ytddpjgcodnfbjaa
