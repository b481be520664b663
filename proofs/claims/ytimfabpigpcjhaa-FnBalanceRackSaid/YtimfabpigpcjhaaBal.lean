/- sides of spec, and what BalanceRack answers; no statement is proved here. -/
import Derived.Test.YtimfabpigpcjhaaBit
import Derived.Test.YtimfabpigpcjhaaInR
namespace Go.Proofs.Ytimfabpigpcjhaa
open Go.ChangeShapes Go.WideShapes Go.ChangeAt Go.RowKit
set_option linter.unusedVariables false
set_option linter.unusedSimpArgs false

@[irreducible] def totW (zs : List Int) (n : Nat) : Int := bsS zs (2 ^ n - 1) n
theorem totW_eq (zs : List Int) (n : Nat) : totW zs n = bsS zs (2 ^ n - 1) n := by unfold totW; rfl
@[irreducible] def difW (zs : List Int) (n s : Nat) : Int := if 2 * bsS zs s n - totW zs n < totW zs n - 2 * bsS zs s n then totW zs n - 2 * bsS zs s n else 2 * bsS zs s n - totW zs n
theorem difW_eq (zs : List Int) (n s : Nat) : difW zs n s = if 2 * bsS zs s n - totW zs n < totW zs n - 2 * bsS zs s n then totW zs n - 2 * bsS zs s n else 2 * bsS zs s n - totW zs n := by unfold difW; rfl
def balT (zs : List Int) (n : Nat) : Nat → Nat × Int
  | 0 => (0, totW zs n)
  | k + 1 => if difW zs n k < (balT zs n k).2 then (k, difW zs n k) else balT zs n k
@[irreducible] def balS (zs : List Int) (n k : Nat) : Nat := (balT zs n k).1
@[irreducible] def balD (zs : List Int) (n k : Nat) : Int := (balT zs n k).2
theorem bal_zero (zs : List Int) (n : Nat) : balS zs n 0 = 0 ∧ balD zs n 0 = totW zs n := by unfold balS balD; exact ⟨rfl, rfl⟩
theorem bal_yes {zs : List Int} {n k : Nat} (h : difW zs n k < balD zs n k) : balS zs n (k + 1) = k ∧ balD zs n (k + 1) = difW zs n k := by
  unfold balS balD at *
  have e : balT zs n (k + 1) = (k, difW zs n k) := by show (if _ then _ else _) = _; rw [if_pos h]
  rw [e]; exact ⟨rfl, rfl⟩
theorem bal_no {zs : List Int} {n k : Nat} (h : ¬ difW zs n k < balD zs n k) : balS zs n (k + 1) = balS zs n k ∧ balD zs n (k + 1) = balD zs n k := by
  unfold balS balD at *
  have e : balT zs n (k + 1) = balT zs n k := by show (if _ then _ else _) = _; rw [if_neg h]
  rw [e]; exact ⟨rfl, rfl⟩
theorem totW_bd {zs : List Int} {n : Nat} (h : okW zs n) : 0 ≤ totW zs n ∧ totW zs n ≤ 1000 * n := by
  rw [totW_eq]; exact bsS_bd h _ (Nat.le_refl _)
theorem difW_bd {zs : List Int} {n : Nat} (h : okW zs n) (s : Nat) : 0 ≤ difW zs n s ∧ difW zs n s ≤ 2000 * n := by
  have h1 := totW_bd h
  have h2 := bsS_bd h s (Nat.le_refl n)
  rw [difW_eq]; split <;> omega
theorem bal_bd {zs : List Int} {n : Nat} (h : okW zs n) (k : Nat) : 0 ≤ balD zs n k ∧ balD zs n k ≤ 2000 * n ∧ balS zs n k ≤ k := by
  induction k with
  | zero =>
    have := totW_bd h
    rw [(bal_zero zs n).1, (bal_zero zs n).2]; omega
  | succ k ih =>
    have hd := difW_bd h k
    by_cases hc : difW zs n k < balD zs n k
    · rw [(bal_yes hc).1, (bal_yes hc).2]; omega
    · rw [(bal_no hc).1, (bal_no hc).2]; omega
theorem dif_zero {zs : List Int} {n : Nat} (h : okW zs n) : difW zs n 0 = totW zs n := by
  have h1 := totW_bd h
  have h0 : ∀ k, k ≤ n → bsS zs 0 k = 0 := fun k hk => by
    induction k with
    | zero => exact bsS_zero _ _
    | succ k ih => rw [bsS_no (by unfold bt; simp)]; exact ih (by omega)
  rw [difW_eq, h0 n (Nat.le_refl _)]; split <;> omega
theorem bal_one {zs : List Int} {n : Nat} (h : okW zs n) : balS zs n 1 = 0 ∧ balD zs n 1 = totW zs n := by
  have hz := bal_zero zs n
  have hd : ¬ difW zs n 0 < balD zs n 0 := by rw [dif_zero h, hz.2]; omega
  have := bal_no hd
  rw [hz.1, hz.2] at this
  exact this
theorem compl_sum {zs : List Int} {n s : Nat} (hn : n ≤ 7) (hs : s < 2 ^ n) : bsS zs (2 ^ n - 1 - s) n = totW zs n - bsS zs s n := by
  rw [totW_eq]
  have : ∀ k, k ≤ n → bsS zs (2 ^ n - 1 - s) k = bsS zs (2 ^ n - 1) k - bsS zs s k := fun k hk => by
    induction k with
    | zero => simp only [bsS_zero]; omega
    | succ k ih =>
      have e := ih (by omega)
      have hc := compl_bt n (by omega) s hs k (by omega)
      rw [bsS_yes (all_bt n (by omega) k (by omega))]
      cases hb : bt s k
      · rw [hb] at hc
        rw [bsS_yes hc, bsS_no hb]; omega
      · rw [hb] at hc
        rw [bsS_no hc, bsS_yes hb]; omega
  exact this n (Nat.le_refl _)
instance (zs : List Int) (k : Nat) : Decidable (okW zs k) := by unfold okW; infer_instance
/-- weights that a rack may have -/
@[irreducible] def okRack (zs : List Int) : Bool := decide (zs.length ≤ 7 ∧ okW zs zs.length)
theorem okRack_iff {zs : List Int} : okRack zs = true ↔ zs.length ≤ 7 ∧ okW zs zs.length := by unfold okRack; simp
theorem okRack_no {zs : List Int} (h : ¬ (zs.length ≤ 7 ∧ okW zs zs.length)) : okRack zs = false := by unfold okRack; exact decide_eq_false h
/-- which weights are on the left side, and the difference -/
def lefts (s k : Nat) : List Bool := (List.range k).map (bt s)
theorem lefts_length (s k : Nat) : (lefts s k).length = k := by simp [lefts]
theorem lefts_succ (s k : Nat) : (lefts s k).map Value.bool ++ [.bool (bt s k)] = (lefts s (k + 1)).map Value.bool := by simp [lefts, List.range_succ]
@[irreducible] def balR (zs : List Int) : List Bool := if okRack zs = true then lefts (balS zs zs.length (2 ^ zs.length)) zs.length else []
@[irreducible] def balI (zs : List Int) : Int := if okRack zs = true then balD zs zs.length (2 ^ zs.length) else -1
theorem balR_no {zs : List Int} (h : okRack zs = false) : balR zs = [] ∧ balI zs = -1 := by unfold balR balI; rw [h]; exact ⟨rfl, rfl⟩
theorem balR_yes {zs : List Int} {n : Nat} (h : okRack zs = true) (hn : zs.length = n) : balR zs = lefts (balS zs n (2 ^ n)) n ∧ balI zs = balD zs n (2 ^ n) := by unfold balR balI; rw [h, hn]; exact ⟨rfl, rfl⟩
set_option maxHeartbeats 1000000 in
theorem spec_sides_s {b off n cap : Nat} {zs : List Int} {w : World} (h : Sl w b off n cap zs) (hn : n ≤ 7) (ho : okW zs n) :
    Calls Try.prog 64 #[.slice (some ⟨b, off, none⟩) n cap] w (Rs (.tuple #[(.int .i64 (balD zs n (2 ^ n))), (.int .i64 ((balS zs n (2 ^ n) : Int)))]) w) := by
  have HO := mkhid ho
  obtain ⟨q1, q2⟩ := pow_le7 n (by omega)
  clear ho
  go_enter Try.func64, Try.ntmps64
  go_wp2_with fail
  go_loop [4, 5] (fun c i => ∃ k : Nat, k ≤ n ∧ i = .int .i64 k ∧ c = .int .i64 (bsS zs (2 ^ n - 1) k)) (fun _ i => n - (intOf i).toNat)
  case atStart => exact ⟨0, Nat.zero_le _, rfl, by rw [bsS_zero]⟩
  case round =>
    obtain ⟨k, hk, rfl, rfl⟩ := hrel
    obtain ⟨s1, s2⟩ := bsS_bd HO.out (2 ^ n - 1) hk
    by_cases hlt : k < n
    · have i1 : (0 : Int) ≤ (k : Int) := by omega
      have i2 : (k : Int) < (n : Int) := by omega
      have c1 := h.cell hlt
      obtain ⟨w1, w2⟩ := HO.out k hlt
      have hsucc := mkhid (bsS_yes (zs := zs) (all_bt n (by omega) k hlt))
      go_wp2
      go_round
      case rel => exact ⟨k + 1, by omega, by go_num, by rw [hsucc.out]⟩
      case measure => simp [intOf]; omega
    · have hkn := mkhid (show k = n by omega)
      have htot := mkhid (show bsS zs (2 ^ n - 1) k = totW zs n by rw [totW_eq, hkn.out])
      rw [htot.out]
      obtain ⟨t1, t2⟩ := totW_bd HO.out
      have CP := power_c n hn
      obtain ⟨N, hN⟩ : ∃ N, N = 2 ^ n := ⟨_, rfl⟩
      rw [← hN] at CP q1 q2 ⊢
      have HN := mkhid hN
      clear hN s1 s2
      obtain ⟨T, hT⟩ : ∃ T, T = totW zs n := ⟨_, rfl⟩
      rw [← hT] at t1 t2 ⊢
      have HT := mkhid hT
      clear hT
      have B0 := bal_zero zs n
      rw [← HT.out] at B0
      have HB0 := mkhid B0
      clear B0
      go_wp2_with fail
      go_loop [6, 7, 8] (fun d a s => ∃ k : Nat, k ≤ N ∧ s = .int .i64 k ∧ d = .int .i64 (balD zs n k) ∧ a = .int .i64 (balS zs n k : Int)) (fun _ _ s => N - (intOf s).toNat)
      case atStart => exact ⟨0, Nat.zero_le _, rfl, by rw [HB0.out.2], by rw [HB0.out.1]; rfl⟩
      case round =>
        obtain ⟨s, hs, rfl, rfl, rfl⟩ := hrel
        obtain ⟨d1, d2, d3⟩ := bal_bd HO.out s
        by_cases hlt2 : s < N
        · have j1 : decide ((s : Int) < (N : Int)) = true := decide_eq_true (by omega)
          have hyes := @bal_yes zs n s
          have hnot := @bal_no zs n s
          have hdf := difW_eq zs n s
          rw [← HT.out] at hdf
          have hdb := difW_bd HO.out s
          obtain ⟨o1, o2⟩ := bsS_bd HO.out s (Nat.le_refl n)
          obtain ⟨D, hD⟩ : ∃ D, D = difW zs n s := ⟨_, rfl⟩
          obtain ⟨O, hO⟩ : ∃ O, O = bsS zs s n := ⟨_, rfl⟩
          obtain ⟨E, hE⟩ : ∃ E, E = balD zs n s := ⟨_, rfl⟩
          rw [← hD] at hyes hnot hdf hdb
          rw [← hO] at hdf o1 o2
          rw [← hE] at hyes hnot d1 d2 ⊢
          have HY := mkhid hyes
          have HNO := mkhid hnot
          have HDF := mkhid hdf
          have HO2 := mkhid hO
          obtain ⟨db1, db2⟩ := hdb
          clear hyes hnot hdf hD hO hE
          go_wp2_with (go_at_call 70; refine (CP _).mono ?_; rintro e w1 ⟨rfl, rfl⟩)
          go_loop [9, 10] (fun c i => ∃ k : Nat, k ≤ n ∧ i = .int .i64 k ∧ c = .int .i64 (bsS zs s k)) (fun _ i => n - (intOf i).toNat)
          case atStart => exact ⟨0, Nat.zero_le _, rfl, by rw [bsS_zero]⟩
          case round =>
            obtain ⟨k2, hk2, rfl, rfl⟩ := hrel
            obtain ⟨s1, s2⟩ := bsS_bd HO.out s hk2
            by_cases hlt3 : k2 < n
            · have i1 : (0 : Int) ≤ (k2 : Int) := by omega
              have i2 : (k2 : Int) < (n : Int) := by omega
              have c1 := h.cell hlt3
              obtain ⟨w1, w2⟩ := HO.out k2 hlt3
              have CH := has_c s k2 (by omega) (by omega)
              cases hb : bt s k2
              · rw [hb] at CH
                have hsucc := mkhid (bsS_no (zs := zs) hb)
                clear hb
                go_wp2_with (go_at_call 65; refine (CH _).mono ?_; rintro e w1 ⟨rfl, rfl⟩)
                go_round
                case rel => exact ⟨k2 + 1, by omega, by go_num, by rw [hsucc.out]⟩
                case measure => simp [intOf]; omega
              · rw [hb] at CH
                have hsucc := mkhid (bsS_yes (zs := zs) hb)
                clear hb
                go_wp2_with (go_at_call 65; refine (CH _).mono ?_; rintro e w1 ⟨rfl, rfl⟩)
                go_round
                case rel => exact ⟨k2 + 1, by omega, by go_num, by rw [hsucc.out]⟩
                case measure => simp [intOf]; omega
            · have hkn2 := mkhid (show k2 = n by omega)
              have hv := mkhid (show bsS zs s k2 = O by rw [HO2.out, hkn2.out])
              rw [hv.out]
              clear s1 s2
              by_cases hdd : D < E
              · have e1 : decide (D < E) = true := decide_eq_true hdd
                have hr := mkhid (HY.out hdd)
                by_cases hc : 2 * O - T < T - 2 * O
                · have hdv : Hid (D = T - 2 * O) := by show _ = _; rw [HDF.out, if_pos hc]
                  have e2 : decide (T - 2 * O < E) = true := by rw [← hdv.out]; exact e1
                  go_wp2
                  go_round
                  case rel => exact ⟨s + 1, by omega, by go_num, by rw [hr.out.2, hdv.out], by rw [hr.out.1]⟩
                  case measure => simp [intOf]; omega
                · have hdv : Hid (D = 2 * O - T) := by show _ = _; rw [HDF.out, if_neg hc]
                  have e2 : decide (2 * O - T < E) = true := by rw [← hdv.out]; exact e1
                  go_wp2
                  go_round
                  case rel => exact ⟨s + 1, by omega, by go_num, by rw [hr.out.2, hdv.out], by rw [hr.out.1]⟩
                  case measure => simp [intOf]; omega
              · have e1 : decide (D < E) = false := decide_eq_false hdd
                have hr := mkhid (HNO.out (by omega))
                by_cases hc : 2 * O - T < T - 2 * O
                · have hdv : Hid (D = T - 2 * O) := by show _ = _; rw [HDF.out, if_pos hc]
                  have e2 : decide (T - 2 * O < E) = false := by rw [← hdv.out]; exact e1
                  go_wp2
                  go_round
                  case rel => exact ⟨s + 1, by omega, by go_num, by rw [hr.out.2], by rw [hr.out.1]⟩
                  case measure => simp [intOf]; omega
                · have hdv : Hid (D = 2 * O - T) := by show _ = _; rw [HDF.out, if_neg hc]
                  have e2 : decide (2 * O - T < E) = false := by rw [← hdv.out]; exact e1
                  go_wp2
                  go_round
                  case rel => exact ⟨s + 1, by omega, by go_num, by rw [hr.out.2], by rw [hr.out.1]⟩
                  case measure => simp [intOf]; omega
        · have j1 : decide ((s : Int) < (N : Int)) = false := decide_eq_false (by omega)
          have hsn := mkhid (show s = 2 ^ n by rw [← HN.out]; omega)
          go_wp2_with (go_at_call 70; refine (CP _).mono ?_; rintro e w1 ⟨rfl, rfl⟩)
          go_ret2
          exact ⟨by rw [hsn.out]; rfl, rfl⟩
end Go.Proofs.Ytimfabpigpcjhaa
