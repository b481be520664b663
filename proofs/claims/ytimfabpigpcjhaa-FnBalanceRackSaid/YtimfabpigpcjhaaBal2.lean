/- BalanceRack of spec and impl; no statement is proved here. -/
import Derived.Test.YtimfabpigpcjhaaBal
import Derived.Test.YtimfabpigpcjhaaBoo
import Derived.Maps.AppendAt
namespace Go.Proofs.Ytimfabpigpcjhaa
open Go.ChangeShapes Go.WideShapes Go.ChangeAt Go.RowKit
set_option linter.unusedVariables false
set_option linter.unusedSimpArgs false

theorem Try.infoBoo : (Try.prog.info? 4).map (fun i => (i.zero, i.size, i.bytes)) = some (some (.bool false), 1, 1) := by kernel_rfl
theorem ownB_empty (w : World) (B : Nat) (hB : B ≤ w.heap.size) : OwnB (w.alloc (.cells #[] 4)) B (.slice (some ⟨w.heap.size, 0, none⟩) 0 0) [] :=
  World.ownsRow_lit (size := 1) w #[] 0 hB (by unfold maxLen; omega) rfl
/-- a call returns f v, v new memory that reads as bs -/
def FrBX (f : Value → Value) (bs : List Bool) (w : World) : Ending → World → Prop := fun e w' => ∃ v, e = .returned (f v) ∧ OwnB w' w.heap.size v bs ∧ Below w.heap.size w w'
theorem okW_zero (zs : List Int) : okW zs 0 := fun i hi => by omega
theorem okW_succ {zs : List Int} {k : Nat} (h : okW zs k) (hk : 1 ≤ el zs k ∧ el zs k ≤ 1000) : okW zs (k + 1) := fun i hi => by
  by_cases e : i = k
  · exact e ▸ hk
  · exact h i (by omega)
theorem bal_fin_no {zs : List Int} {w w' : World} (h : okRack zs = false) (hb : Below w.heap.size w w') : FrBX (fun v => .tuple #[v, (.int .i64 (balI zs))]) (balR zs) w (.returned (.tuple #[.slice none 0 0, (.int .i64 (-1))])) w' := by
  obtain ⟨e1, e2⟩ := balR_no h
  exact ⟨.slice none 0 0, by rw [e2], e1 ▸ ownB_nil _ _, hb⟩
theorem bal_fin_yes {zs : List Int} {n : Nat} {w w' : World} {v : Value} (h : okRack zs = true) (hn : zs.length = n) (hb : Below w.heap.size w w')
    (ho : w'.ownsRow w.heap.size 4 1 v n ((lefts (balS zs n (2 ^ n)) n).map Value.bool)) : FrBX (fun v => .tuple #[v, (.int .i64 (balI zs))]) (balR zs) w (.returned (.tuple #[v, (.int .i64 (balD zs n (2 ^ n)))])) w' := by
  obtain ⟨e1, e2⟩ := balR_yes h hn
  refine ⟨v, by rw [e2], ?_, hb⟩
  rw [e1]
  unfold OwnB
  rw [lefts_length]
  exact ho
set_option maxHeartbeats 1000000 in
theorem spec_BalanceRack_s {b off n cap : Nat} {zs : List Int} {w : World} (h : Sl w b off n cap zs) :
    Calls Try.prog 32 #[.slice (some ⟨b, off, none⟩) n cap] w (FrBX (fun v => .tuple #[v, (.int .i64 (balI zs))]) (balR zs) w) := by
  obtain ⟨i0, hi, hz0, hz1, hz2⟩ := info_parts Try.infoBoo
  have hsm := h.small
  have HL := mkhid h.len
  go_enter Try.func32, Try.ntmps32
  go_wp2_with fail
  go_loop [4] (fun i => ∃ k : Nat, k ≤ n ∧ i = .int .i64 k ∧ Hid (okW zs k)) (fun i => n - (intOf i).toNat)
  case atStart => exact ⟨0, Nat.zero_le _, rfl, okW_zero zs⟩
  case round =>
    obtain ⟨k, hk, rfl, HB⟩ := hrel
    by_cases hlt : k < n
    · have i1 : (0 : Int) ≤ (k : Int) := by omega
      have i2 : (k : Int) < (n : Int) := by omega
      have c1 := h.cell hlt
      by_cases hin : 1 ≤ el zs k ∧ el zs k ≤ 1000
      · have e1 := inR_yes hin
        have hok := mkhid (okW_succ HB.out hin)
        clear hin
        go_wp2_with (go_at_call 48; refine (inRange_c _ _ _ _).mono ?_; rintro e w1 ⟨rfl, rfl⟩)
        go_round
        case rel => exact ⟨k + 1, by omega, by go_num, hok⟩
        case measure => simp [intOf]; omega
      · have e1 := inR_no hin
        have hno := bal_fin_no (zs := zs) (okRack_no (fun hh => hin (hh.2 k (by rw [HL.out]; exact hlt)))) (Below.refl w.heap.size w)
        clear hin
        go_wp2_with (go_at_call 48; refine (inRange_c _ _ _ _).mono ?_; rintro e w1 ⟨rfl, rfl⟩)
        go_ret2
        exact hno
    · have hkn := mkhid (show k = n by omega)
      by_cases q : n ≤ 7
      · have d1 : decide ((7 : Int) < (n : Int)) = false := decide_eq_false (by omega)
        have hon : okW zs n := hkn.out ▸ HB.out
        have hok : okRack zs = true := okRack_iff.2 (by rw [HL.out]; exact ⟨q, hon⟩)
        have hfin := fun (v : Value) (w' : World) (hb : Below w.heap.size w w') (ho : w'.ownsRow w.heap.size 4 1 v n ((lefts (balS zs n (2 ^ n)) n).map Value.bool)) => bal_fin_yes (w := w) hok HL.out hb ho
        have CS := spec_sides_s h q hon
        have hbd := (bal_bd hon (2 ^ n)).2.2
        have hp7 := (pow_le7 n (by omega)).1
        obtain ⟨S, hS⟩ : ∃ S, S = balS zs n (2 ^ n) := ⟨_, rfl⟩
        obtain ⟨D, hD⟩ : ∃ D, D = balD zs n (2 ^ n) := ⟨_, rfl⟩
        rw [← hS] at hbd
        simp only [← hS, ← hD] at CS hfin
        have hS7 : S < 1000 := by omega
        have hown0 : (w.alloc (.cells #[] 4)).ownsRow w.heap.size 4 1 (.slice (some ⟨w.heap.size, 0, none⟩) 0 0) 0 ((lefts S 0).map Value.bool) := ownB_empty w w.heap.size (Nat.le_refl _)
        clear hon hok hS hD hbd hp7
        go_wp2_with (go_at_call 64; refine CS.mono ?_; rintro e w1 ⟨rfl, rfl⟩)
        go_loopw [7, 8] (fun o i wr => ∃ p : Nat, p ≤ n ∧ i = .int .i64 p ∧ wr.ownsRow w.heap.size 4 1 o p ((lefts S p).map Value.bool) ∧ Below w.heap.size w wr) (fun _ i _ => n - (intOf i).toNat)
        case atStart => exact ⟨0, Nat.zero_le _, rfl, hown0, (by repeat' (first | with_reducible exact Below.refl _ _ | with_reducible refine Below.alloc ?_ (by first | omega | (simp; done) | (simp; omega)) _ | with_reducible refine Below.drew ?_ | with_reducible refine below_drewN ?_ _ | with_reducible refine Below.setCell ?_ (by first | omega | (simp; done) | (simp; omega)) _ | with_reducible refine Below.grown ?_ (by assumption) (by first | omega | (simp; done) | (simp; omega)) (by intro k hk; cases hk; omega) | with_reducible refine Below.trans ?_ (Below.mono (by assumption) (by first | omega | (simp; done) | (simp; omega)))))⟩
        case round =>
          obtain ⟨p, hp, rfl, ho, hbr⟩ := hrel
          clear hown0
          have hsz := hbr.size
          by_cases hlp : p < n
          · have j1 : decide ((p : Int) < (n : Int)) = true := decide_eq_true (by omega)
            have CH := has_c S p (by omega) (by omega)
            go_wp2_with (first | (go_at_call 65; refine (CH _).mono ?_; rintro e w1 ⟨rfl, rfl⟩) | (at_builtin; refine wpList_append_own _ rfl (.tmp 36) (.tmp 40) 51 rfl w.heap.size 4 i0 (.bool false) 1 1 Try.underlying51 hi hz0 hz1 hz2 rfl (by decide) _ p _ rfl (ho.alloc _) ⟨wr.heap.size, 0, none⟩ 1 1 [.bool (bt S p)] rfl rfl (cell_one_new _ _ _) (by intro u hu; simp at hu; subst hu; rfl) (by unfold maxLen; omega) (by omega) (by simp; omega) ?_; intro v1 w1 hown1 hgrow1 hnil1))
            have hb2 := below_append hbr ho hsz hgrow1
            rw [lefts_succ] at hown1
            clear hgrow1 hnil1 ho hbr
            go_wp2
            go_roundw
            case rel => exact ⟨p + 1, by omega, by go_num, hown1, hb2⟩
            case measure => simp [intOf]; omega
          · have j1 : decide ((p : Int) < (n : Int)) = false := decide_eq_false (by omega)
            obtain rfl : p = n := by omega
            have hfin2 := hfin _ _ hbr ho
            clear ho hfin
            go_wp2
            go_ret2
            exact hfin2
      · have d1 : decide ((7 : Int) < (n : Int)) = true := decide_eq_true (by omega)
        have hno := bal_fin_no (zs := zs) (okRack_no (fun hh => q (by rw [← HL.out]; exact hh.1))) (Below.refl w.heap.size w)
        go_wp2
        go_ret2
        exact hno
theorem balS_lt {zs : List Int} {n N : Nat} (h : okW zs n) (hn : n ≤ 7) (hN : N = 2 ^ n) : balS zs n N < 128 := by
  have hp := pow_le7 n (by omega)
  have : ∀ k, 1 ≤ k → k ≤ 128 → balS zs n k < 128 := fun k h1 hk => by
    induction k with
    | zero => omega
    | succ k ih =>
      by_cases hc : difW zs n k < balD zs n k
      · rw [(bal_yes hc).1]; omega
      · rw [(bal_no hc).1]
        by_cases hk0 : k = 0
        · subst hk0; rw [(bal_zero zs n).1]; omega
        · exact ih (by omega) (by omega)
  exact this N (by omega) (by omega)
theorem wrap_all : ∀ n : Nat, n < 8 → wrap64 (wrap64 (2 ^ n) - 1) = ((2 ^ n - 1 : Nat) : Int) := by decide +kernel
set_option maxHeartbeats 2000000 in
theorem impl_BalanceRack_s {b off n cap : Nat} {zs : List Int} {w : World} (h : Sl w b off n cap zs) :
    Calls Try.prog 33 #[.slice (some ⟨b, off, none⟩) n cap] w (FrBX (fun v => .tuple #[v, (.int .i64 (balI zs))]) (balR zs) w) := by
  obtain ⟨i0, hi, hz0, hz1, hz2⟩ := info_parts Try.infoBoo
  have hsm := h.small
  have HL := mkhid h.len
  by_cases q : n ≤ 7
  · have d1 : decide ((7 : Int) < (n : Int)) = false := decide_eq_false (by omega)
    go_enter Try.func33, Try.ntmps33
    go_wp2_with fail
    go_loop [18] (fun i => ∃ k : Nat, k ≤ n ∧ i = .int .i64 k ∧ Hid (okW zs k)) (fun i => n - (intOf i).toNat)
    case atStart => exact ⟨0, Nat.zero_le _, rfl, okW_zero zs⟩
    case round =>
      obtain ⟨k, hk, rfl, HB⟩ := hrel
      by_cases hlt : k < n
      · have i1 : (0 : Int) ≤ (k : Int) := by omega
        have i2 : (k : Int) < (n : Int) := by omega
        have c1 := h.cell hlt
        by_cases hin : 1 ≤ el zs k ∧ el zs k ≤ 1000
        · have e1 : decide (el zs k < 1) = false := decide_eq_false (by omega)
          have e2 : decide ((1000 : Int) < el zs k) = false := decide_eq_false (by omega)
          have hok := mkhid (okW_succ HB.out hin)
          clear hin
          go_wp2
          go_round
          case rel => exact ⟨k + 1, by omega, by go_num, hok⟩
          case measure => simp [intOf]; omega
        · have hno := bal_fin_no (zs := zs) (okRack_no (fun hh => hin (hh.2 k (by rw [HL.out]; exact hlt)))) (Below.refl w.heap.size w)
          by_cases hl1 : el zs k < 1
          · have e1 : decide (el zs k < 1) = true := decide_eq_true hl1
            clear hin
            go_wp2
            go_ret2
            exact hno
          · have e1 : decide (el zs k < 1) = false := decide_eq_false hl1
            have e2 : decide ((1000 : Int) < el zs k) = true := decide_eq_true (by omega)
            clear hin
            go_wp2
            go_ret2
            exact hno
      · have hkn := mkhid (show k = n by omega)
        have hon : okW zs n := hkn.out ▸ HB.out
        have hok : okRack zs = true := okRack_iff.2 (by rw [HL.out]; exact ⟨q, hon⟩)
        have hfin := fun (v : Value) (w' : World) (hb : Below w.heap.size w w') (ho : w'.ownsRow w.heap.size 4 1 v n ((lefts (balS zs n (2 ^ n)) n).map Value.bool)) => bal_fin_yes (w := w) hok HL.out hb ho
        have hbd := bal_bd hon
        obtain ⟨q1, q2⟩ := pow_le7 n (by omega)
        have hw := wrap_all n (by omega)
        have B1 := bal_one hon
        have hSum := fun (s : Nat) (hs : s < 128) => impl_sumIn_s h q hon s hs
        have hTot := totW_eq zs n
        have hCom := fun (s : Nat) (hs : s < 2 ^ n) => compl_sum (zs := zs) q hs
        have hAnd := fun (s : Nat) (hs : s < 2 ^ n) => compl_and n (by omega) s hs
        obtain ⟨N, hN⟩ : ∃ N, N = 2 ^ n := ⟨_, rfl⟩
        rw [← hN] at q1 q2 hTot hfin
        simp only [← hN] at hw hCom hAnd
        obtain ⟨A, hA⟩ : ∃ A, A = N - 1 := ⟨_, rfl⟩
        rw [← hA] at hw hTot
        simp only [← hA] at hCom hAnd
        have HON := mkhid hon
        have CT := hSum A (by omega)
        rw [← hTot] at CT
        have ha1 : A + 1 = N := by omega
        have HN2 := mkhid hN
        have HA1 := mkhid ha1
        have HB1 := mkhid B1
        have hA7 : A ≤ 127 := by omega
        clear hon hok hA hN hTot ha1 B1
        go_wp2_with (go_at_call 63; refine CT.mono ?_; rintro e w1 ⟨rfl, rfl⟩)
        clear CT
        go_loop [7, 8, 9] (fun a d s => ∃ k : Nat, 1 ≤ k ∧ k ≤ N ∧ s = .int .i64 k ∧ d = .int .i64 (balD zs n k) ∧ a = .int .i64 (balS zs n k : Int)) (fun _ _ s => N - (intOf s).toNat)
        case atStart => exact ⟨1, Nat.le_refl _, q2, rfl, by rw [HB1.out.2], by rw [HB1.out.1]; rfl⟩
        case round =>
          obtain ⟨s, hs1, hs, rfl, rfl, rfl⟩ := hrel
          obtain ⟨b1, b2, b3⟩ := hbd s
          by_cases hlt2 : s < N
          · have hsA : s ≤ A := by have := HA1.out; omega
            have hyes := @bal_yes zs n s
            have hnot := @bal_no zs n s
            have hdf := difW_eq zs n s
            have hdb := difW_bd HON.out s
            obtain ⟨o1, o2⟩ := bsS_bd HON.out s (Nat.le_refl n)
            obtain ⟨t1, t2⟩ := totW_bd HON.out
            have C1 := hSum s (by omega)
            have C2 := hSum (A - s) (by omega)
            rw [hCom s hlt2] at C2
            have hand := hAnd s hlt2
            obtain ⟨D, hD⟩ : ∃ D, D = difW zs n s := ⟨_, rfl⟩
            obtain ⟨O, hO⟩ : ∃ O, O = bsS zs s n := ⟨_, rfl⟩
            obtain ⟨T, hT⟩ : ∃ T, T = totW zs n := ⟨_, rfl⟩
            obtain ⟨E, hE⟩ : ∃ E, E = balD zs n s := ⟨_, rfl⟩
            rw [← hD] at hyes hnot hdf hdb
            rw [← hO] at hdf o1 o2 C1 C2
            rw [← hT] at hdf t1 t2 C2
            rw [← hE] at hyes hnot b1 b2 ⊢
            have HY := mkhid hyes
            have HNO := mkhid hnot
            have HDF := mkhid hdf
            obtain ⟨db1, db2⟩ := hdb
            have hOT : Hid (O - (T - O) = 2 * O - T) := by show _ = _; omega
            clear hyes hnot hdf hD hO hE hT
            go_wp2_with fail
            go_at_call 63
            refine C1.mono ?_
            rintro e w1 ⟨rfl, rfl⟩
            go_wp2_with fail
            go_at_call 63
            refine C2.mono ?_
            rintro e w1 ⟨rfl, rfl⟩
            clear C1 C2 hand hSum hCom hAnd hfin hbd hw h
            by_cases hdd : D < E
            · have hr := mkhid (HY.out hdd)
              by_cases hc : 2 * O - T < T - 2 * O
              · have hdv : Hid (D = T - 2 * O) := by show _ = _; rw [HDF.out, if_pos hc]
                have hcE : T - 2 * O < E := by have := hdv.out; omega
                clear hdd
                go_wp2
                go_round
                case rel => exact ⟨s + 1, by omega, by omega, by go_num, (by rw [hr.out.2, hdv.out]; first | rfl | exact congrArg (Value.int .i64) (by omega)), by rw [hr.out.1]⟩
                case measure => simp [intOf]; omega
              · have hdv : Hid (D = 2 * O - T) := by show _ = _; rw [HDF.out, if_neg hc]
                have hcE : 2 * O - T < E := by have := hdv.out; omega
                clear hdd
                go_wp2
                go_round
                case rel => exact ⟨s + 1, by omega, by omega, by go_num, (by rw [hr.out.2, hdv.out]; first | rfl | exact congrArg (Value.int .i64) (by omega)), by rw [hr.out.1]⟩
                case measure => simp [intOf]; omega
            · have hr := mkhid (HNO.out (by omega))
              by_cases hc : 2 * O - T < T - 2 * O
              · have hdv : Hid (D = T - 2 * O) := by show _ = _; rw [HDF.out, if_pos hc]
                have hcE : ¬ (T - 2 * O < E) := by have := hdv.out; omega
                clear hdd
                go_wp2
                go_round
                case rel => exact ⟨s + 1, by omega, by omega, by go_num, by rw [hr.out.2]; skip, by rw [hr.out.1]⟩
                case measure => simp [intOf]; omega
              · have hdv : Hid (D = 2 * O - T) := by show _ = _; rw [HDF.out, if_neg hc]
                have hcE : ¬ (2 * O - T < E) := by have := hdv.out; omega
                clear hdd
                go_wp2
                go_round
                case rel => exact ⟨s + 1, by omega, by omega, by go_num, by rw [hr.out.2]; skip, by rw [hr.out.1]⟩
                case measure => simp [intOf]; omega
          · obtain rfl : s = N := by omega
            have hsA : ¬ (s ≤ A) := by have := HA1.out; omega
            have hS7 : balS zs n s < 128 := balS_lt HON.out q HN2.out
            obtain ⟨S, hS⟩ : ∃ S, S = balS zs n s := ⟨_, rfl⟩
            obtain ⟨D, hD⟩ : ∃ D, D = balD zs n s := ⟨_, rfl⟩
            rw [← hS] at hS7 ⊢
            rw [← hD] at b1 b2 ⊢
            simp only [← hS, ← hD] at hfin
            obtain ⟨v0, hv0⟩ : ∃ v0, v0 = Value.slice none 0 0 := ⟨_, rfl⟩
            have hown0 : w.ownsRow w.heap.size 4 1 (.slice none 0 0) 0 ((lefts S 0).map Value.bool) := World.ownsRow_nil _ _ _ _
            have hn7 : n ≤ 7 := q
            clear hS hD hSum hCom hAnd hbd hw hv0
            go_wp2_with fail
            go_loopw [11, 61] (fun o i wr => ∃ p : Nat, p ≤ n ∧ i = .int .i64 p ∧ wr.ownsRow w.heap.size 4 1 o p ((lefts S p).map Value.bool) ∧ Below w.heap.size w wr) (fun _ i _ => n - (intOf i).toNat)
            case atStart => exact ⟨0, Nat.zero_le _, rfl, hown0, Below.refl _ _⟩
            case round =>
              obtain ⟨p, hp, rfl, ho, hbr⟩ := hrel
              clear hown0
              have hsz := hbr.size
              by_cases hlp : p < n
              · have hb := and_bt (s := S) (k := p) (by omega)
                go_wp2_with (at_builtin; refine wpList_append_own _ rfl (.tmp 64) (.tmp 70) 51 rfl w.heap.size 4 i0 (.bool false) 1 1 Try.underlying51 hi hz0 hz1 hz2 rfl (by decide) _ p _ rfl (ho.alloc _) ⟨wr.heap.size, 0, none⟩ 1 1 [.bool (bt S p)] rfl rfl (cell_one_new _ _ _) (by intro u hu; simp at hu; subst hu; rfl) (by unfold maxLen; omega) (by omega) (by simp; omega) ?_; intro v1 w1 hown1 hgrow1 hnil1)
                have hb2 := below_append hbr ho hsz hgrow1
                rw [lefts_succ] at hown1
                clear hgrow1 hnil1 ho hbr
                go_wp2
                go_roundw
                case rel => exact ⟨p + 1, by omega, by go_num, hown1, hb2⟩
                case measure => simp [intOf]; omega
              · obtain rfl : p = n := by omega
                have hfin2 := hfin _ _ hbr ho
                clear ho hfin
                go_wp2
                go_ret2
                exact hfin2
  · have d1 : decide ((7 : Int) < (n : Int)) = true := decide_eq_true (by omega)
    have hno := bal_fin_no (zs := zs) (okRack_no (fun hh => q (by rw [← HL.out]; exact hh.1))) (Below.refl w.heap.size w)
    go_enter Try.func33, Try.ntmps33
    go_wp2
    go_ret2
    exact hno
end Go.Proofs.Ytimfabpigpcjhaa
