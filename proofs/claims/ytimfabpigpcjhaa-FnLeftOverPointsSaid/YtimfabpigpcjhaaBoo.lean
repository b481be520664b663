/- Rows of bools: what the laws' helpers on them do; no statement is proved here. -/
import Derived.Test.YtimfabpigpcjhaaInts
namespace Go.Proofs.Ytimfabpigpcjhaa
open Go.ChangeShapes Go.WideShapes Go.ChangeAt Go.RowKit
set_option linter.unusedVariables false
set_option linter.unusedSimpArgs false

def eb (bs : List Bool) (i : Nat) : Bool := bs.getD i false
theorem eb_get {bs : List Bool} {i : Nat} (h : i < bs.length) : eb bs i = bs[i] := by simp [eb, h]
def OwnB (w : World) (B : Nat) (v : Value) (bs : List Bool) : Prop := w.ownsRow B 4 1 v bs.length (bs.map Value.bool)
theorem OwnB.below {W w : World} {B : Nat} {v : Value} {bs : List Bool} (h : OwnB W B v bs) (hb : Below W.heap.size W w) : OwnB w B v bs := own_below h hb
theorem OwnB.le {w : World} {B B' : Nat} {v : Value} {bs : List Bool} (h : OwnB w B v bs) (hb : B' ≤ B) : OwnB w B' v bs := Joins.ownsRow_le h hb
theorem OwnB.kept {w w' : World} {B : Nat} {v : Value} {bs : List Bool} {r : Option Nat} (h : OwnB w B v bs) (hg : w.grownBy w' r) (hne : v.ownBlock = none ∨ v.ownBlock ≠ r) : OwnB w' B v bs := World.ownsRow.kept h hg hne
theorem OwnB.at {w : World} {B : Nat} {g n cap : Nat} {bs : List Bool} (h : OwnB w B (.slice (some ⟨g, 0, none⟩) n cap) bs) : n = bs.length ∧ B ≤ g ∧ g < w.heap.size ∧ (∀ i, i < n → w.cell? ⟨g, i, none⟩ = some (.bool (eb bs i))) ∧ ∀ i, w.frozen? ⟨g, i, none⟩ = false := by
  rcases h.2 with ⟨h', _⟩ | ⟨g', cap', cur, h', hb, hg, h4, _, _, htake⟩
  · simp at h'
  · simp only [Value.slice.injEq, Option.some.injEq, Addr.mk.injEq, and_true, true_and] at h'
    obtain ⟨rfl, rfl, rfl⟩ := h'
    refine ⟨rfl, hb, (Array.getElem?_eq_some_iff.1 hg).1, fun i hi => ?_, fun i => World.ownsRow.frozenAt (show w.ownsRow B 4 1 _ _ _ from h) i⟩
    have := World.ownsRow.cellAt (show w.ownsRow B 4 1 _ _ _ from h) i (by omega)
    rw [this]
    simp [hi, eb_get hi]
theorem OwnB.forms {w : World} {B : Nat} {v : Value} {bs : List Bool} (h : OwnB w B v bs) : (v = .slice none 0 0 ∧ bs = []) ∨ ∃ g cap, v = .slice (some ⟨g, 0, none⟩) bs.length cap := by
  rcases Joins.ownsRow_forms h with ⟨rfl, h0⟩ | ⟨g, cap, rfl⟩
  · exact .inl ⟨rfl, List.eq_nil_of_length_eq_zero h0⟩
  · exact .inr ⟨g, cap, rfl⟩
theorem ownB_nil (w : World) (B : Nat) : OwnB w B (.slice none 0 0) [] := World.ownsRow_nil _ _ _ _
theorem ownB_apart {w1 w2 : World} {B1 B2 : Nat} {v1 v2 : Value} {z1 : List Int} {z2 : List Bool} {E : TypeId} (h1 : Own w1 B1 E v1 z1) (h2 : OwnB w2 B2 v2 z2) (h : w1.heap.size ≤ B2) : v1.ownBlock = none ∨ v1.ownBlock ≠ v2.ownBlock := by
  cases e1 : v1.ownBlock with
  | none => exact .inl rfl
  | some k =>
    refine .inr fun e => ?_
    have a := World.ownsRow.lt h1 k e1
    have b := World.ownsRow.lt h2 k e.symm
    omega
theorem ownB_apart2 {w1 w2 : World} {B1 B2 : Nat} {v1 v2 : Value} {z1 : List Bool} {z2 : List Int} {E : TypeId} (h1 : OwnB w1 B1 v1 z1) (h2 : Own w2 B2 E v2 z2) (h : w1.heap.size ≤ B2) : v1.ownBlock = none ∨ v1.ownBlock ≠ v2.ownBlock := by
  cases e1 : v1.ownBlock with
  | none => exact .inl rfl
  | some k =>
    refine .inr fun e => ?_
    have a := World.ownsRow.lt h1 k e1
    have b := World.ownsRow.lt h2 k e.symm
    omega
theorem ownB_apart3 {w1 w2 : World} {B1 B2 : Nat} {v1 v2 : Value} {z1 z2 : List Bool} (h1 : OwnB w1 B1 v1 z1) (h2 : OwnB w2 B2 v2 z2) (h : w1.heap.size ≤ B2) : v1.ownBlock = none ∨ v1.ownBlock ≠ v2.ownBlock := by
  cases e1 : v1.ownBlock with
  | none => exact .inl rfl
  | some k =>
    refine .inr fun e => ?_
    have a := World.ownsRow.lt h1 k e1
    have b := World.ownsRow.lt h2 k e.symm
    omega
theorem OwnB.below_of {w w' : World} {B : Nat} {v : Value} {bs : List Bool} (h : OwnB w B v bs) {C : Nat} (hg : w.grownBy w' v.ownBlock) (hC : C ≤ B) (hs : C ≤ w.heap.size) : Below C w w' :=
  grown_below hg hs (fun k hk => Nat.le_trans hC (World.ownsRow.lt h k hk).1)
theorem ownB_set {w : World} {B : Nat} {g n cap : Nat} {bs : List Bool} (h : OwnB w B (.slice (some ⟨g, 0, none⟩) n cap) bs) (j : Nat) (u : Bool) :
    OwnB (w.setCell ⟨g, j, none⟩ (.bool u)) B (.slice (some ⟨g, 0, none⟩) n cap) (bs.set j u) := by
  have hl := (OwnB.at h).1
  subst hl
  have := (World.ownsRow.stored (show w.ownsRow B 4 1 _ _ _ from h) j (.bool u)).1
  unfold OwnB
  rw [List.length_set, List.map_set]
  exact this
/-- what markBoolS writes -/
def mk3 (k : Int) (n : Nat) : List Bool := (List.range n).map fun (i : Nat) => ((k + (i : Int)) % 3 == 0)
theorem mk3_length (k : Int) (n : Nat) : (mk3 k n).length = n := by simp [mk3]
theorem mk3_eb {k : Int} {n i : Nat} (h : i < n) : eb (mk3 k n) i = ((k + (i : Int)) % 3 == 0) := by rw [eb_get (by rw [mk3_length]; exact h)]; simp [mk3]
theorem mk3_step (k : Int) (j n : Nat) (bs : List Bool) (hn : bs.length = n) (h : j < n) : (mk3 k j ++ bs.drop j).set j ((k + (j : Int)) % 3 == 0) = mk3 k (j + 1) ++ bs.drop (j + 1) := by
  rw [List.set_append_right _ _ (by rw [mk3_length]; exact Nat.le_refl _), mk3_length, Nat.sub_self, List.drop_eq_getElem_cons (by omega : j < bs.length), List.set_cons_zero]
  simp [mk3, List.range_succ]
theorem mk3_done (k : Int) (j n : Nat) (bs : List Bool) (hn : bs.length = n) (h : j ≤ n) (h' : ¬ j < n) : mk3 k j ++ bs.drop j = mk3 k n := by
  obtain rfl : j = n := by omega
  rw [List.drop_of_length_le (by omega), List.append_nil]
theorem markBoolS_c (v : Value) (bs : List Bool) (B : Nat) (k : Int) (w : World) (ho : OwnB w B v bs) (hl : bs.length ≤ 1048576) (hk : 0 ≤ k ∧ k ≤ 1000000000) :
    Calls Try.prog 35 #[v, (.int .i64 k)] w fun e w' => e = .returned (.int .i64 (k + bs.length)) ∧ OwnB w' B v (mk3 k bs.length) ∧ w.grownBy w' v.ownBlock := by
  obtain ⟨n, hn⟩ : ∃ n, bs.length = n := ⟨_, rfl⟩
  obtain ⟨hk1, hk2⟩ := hk
  rcases ho.forms with ⟨rfl, rfl⟩ | ⟨g, cap, rfl⟩
  · simp at hn
    subst hn
    go_enter Try.func35, Try.ntmps35
    go_wp2_with fail
    go_loop [1, 5] (fun kk i => kk = .int .i64 k ∧ i = .int .i64 0) (fun _ i => 0)
    case atStart => exact ⟨rfl, rfl⟩
    case round =>
      obtain ⟨rfl, rfl⟩ := hrel
      go_wp2
      go_ret
      exact ⟨by first | rfl | exact ret_int (by omega) | simp, ho, grown_refl _ _⟩
  · rw [hn] at ho hl ⊢
    have HN : Hid (bs.length = n) := hn
    clear hn
    have ho1 : OwnB w B (.slice (some ⟨g, 0, none⟩) n cap) (mk3 k 0 ++ bs.drop 0) := ho
    go_enter Try.func35, Try.ntmps35
    go_wp2_with fail
    go_loopw [1, 5] (fun kk i wr => ∃ j : Nat, j ≤ n ∧ i = .int .i64 j ∧ kk = .int .i64 (k + j) ∧ OwnB wr B (.slice (some ⟨g, 0, none⟩) n cap) (mk3 k j ++ bs.drop j) ∧ w.grownBy wr (some g)) (fun _ i _ => n - (intOf i).toNat)
    case atStart => exact ⟨0, Nat.zero_le _, rfl, by simp, ho1, grown_refl _ _⟩
    case round =>
      obtain ⟨j, hj, rfl, rfl, hor, hgr⟩ := hrel
      clear ho ho1
      by_cases hlt : j < n
      · have hcell := hor.at.2.2.2.1 j hlt
        have hfz := hor.at.2.2.2.2 j
        have hst := ownB_set hor j ((k + (j : Int)) % 3 == 0)
        go_wp2
        go_roundw
        case rel => exact ⟨j + 1, by omega, by go_num, by go_num, by rw [← mk3_step k j n bs HN.out hlt]; exact hst, grown_setCell hgr _⟩
        case measure => simp [intOf]; omega
      · go_wp2
        go_ret
        refine ⟨ret_int (by omega), ?_, hgr⟩
        rw [← mk3_done k j n bs HN.out hj hlt]; exact hor
theorem heldBoolS_c (v : Value) (B : Nat) (k : Int) (n : Nat) (w : World) (ho : OwnB w B v (mk3 k n)) (hl : n ≤ 1048576) (hk : 0 ≤ k ∧ k ≤ 1000000000) :
    Calls Try.prog 36 #[v, (.int .i64 k)] w (Rs (.int .i64 (k + n)) w) := by
  obtain ⟨hk1, hk2⟩ := hk
  rcases ho.forms with ⟨rfl, he⟩ | ⟨g, cap, rfl⟩
  · have hn : n = 0 := by have := congrArg List.length he; rwa [mk3_length] at this
    subst hn
    go_enter Try.func36, Try.ntmps36
    go_wp2_with fail
    go_loop [1, 5] (fun kk i => kk = .int .i64 k ∧ i = .int .i64 0) (fun _ i => 0)
    case atStart => exact ⟨rfl, rfl⟩
    case round =>
      obtain ⟨rfl, rfl⟩ := hrel
      go_wp2
      go_ret
      exact ⟨by first | rfl | exact ret_int (by omega) | simp, rfl⟩
  · rw [mk3_length] at ho ⊢
    go_enter Try.func36, Try.ntmps36
    go_wp2_with fail
    go_loop [1, 5] (fun kk i => ∃ j : Nat, j ≤ n ∧ i = .int .i64 j ∧ kk = .int .i64 (k + j)) (fun _ i => n - (intOf i).toNat)
    case atStart => exact ⟨0, Nat.zero_le _, rfl, by simp⟩
    case round =>
      obtain ⟨j, hj, rfl, rfl⟩ := hrel
      by_cases hlt : j < n
      · have hcell := ho.at.2.2.2.1 j hlt
        rw [mk3_eb hlt] at hcell
        cases hb : ((k + (j : Int)) % 3 == 0)
        · rw [hb] at hcell
          go_wp2
          go_round
          case rel => exact ⟨j + 1, by omega, by go_num, by go_num⟩
          case measure => simp [intOf]; omega
        · rw [hb] at hcell
          go_wp2
          go_round
          case rel => exact ⟨j + 1, by omega, by go_num, by go_num⟩
          case measure => simp [intOf]; omega
      · go_wp2
        go_ret
        exact ⟨ret_int (by omega), rfl⟩
theorem eqBoolS_same {va vb : Value} {bs : List Bool} {B1 B2 : Nat} {w : World} (ha : OwnB w B1 va bs) (hb : OwnB w B2 vb bs) (hl : bs.length ≤ 1048576) : Calls Try.prog 34 #[va, vb] w (Rd (.bool true) w) := by
  obtain ⟨n, hn⟩ : ∃ n, bs.length = n := ⟨_, rfl⟩
  by_cases h0 : 0 < n
  · rcases ha.forms with ⟨_, rfl⟩ | ⟨g, cap, rfl⟩
    · simp at hn; omega
    · rcases hb.forms with ⟨_, rfl⟩ | ⟨g', cap', rfl⟩
      · simp at hn; omega
      · rw [hn] at ha hb hl ⊢
        have e0 : ((n : Int) != (n : Int)) = false := by simp
        clear hn
        go_enter Try.func34, Try.ntmps34
        go_wp2_with fail
        go_loopw [5] (fun i wr => ∃ k : Nat, k ≤ n ∧ i = .int .i64 k ∧ Drew w wr) (fun i _ => n - (intOf i).toNat)
        case atStart => exact ⟨0, Nat.zero_le _, rfl, Drew.refl _⟩
        case round =>
          obtain ⟨k, hk, rfl, hd⟩ := hrel
          by_cases hlt : k < n
          · have hcell := (hd.cell ⟨g, k, none⟩).trans (ha.at.2.2.2.1 k hlt)
            have hcell' := (hd.cell ⟨g', k, none⟩).trans (hb.at.2.2.2.1 k hlt)
            have i1 : (0 : Int) ≤ (k : Int) := by omega
            have i2 : (k : Int) < (n : Int) := by omega
            cases hx : eb bs k
            · rw [hx] at hcell hcell'
              go_wp2_with fail
              go_quiet (fail)
              go_wp2
              go_roundw
              case rel => exact ⟨k + 1, by omega, by go_num, (by repeat (first | exact Drew.refl _ | assumption | refine Drew.drewN ?_ _ | refine Drew.drew ?_))⟩
              case measure => simp [intOf]; omega
            · rw [hx] at hcell hcell'
              go_wp2_with fail
              go_quiet (fail)
              go_wp2
              go_roundw
              case rel => exact ⟨k + 1, by omega, by go_num, (by repeat (first | exact Drew.refl _ | assumption | refine Drew.drewN ?_ _ | refine Drew.drew ?_))⟩
              case measure => simp [intOf]; omega
          · go_wp2
            go_ret
            exact ⟨rfl, (by repeat (first | exact Drew.refl _ | assumption | refine Drew.drewN ?_ _ | refine Drew.drew ?_))⟩
  · obtain rfl : n = 0 := by omega
    have hf : ∀ v B, OwnB w B v bs → ∃ p cap, v = .slice p 0 cap := fun v B h => by
      rcases h.forms with ⟨rfl, _⟩ | ⟨g, cap, rfl⟩
      · exact ⟨_, _, rfl⟩
      · exact ⟨_, cap, by rw [hn]⟩
    obtain ⟨p, cap, rfl⟩ := hf _ _ ha
    obtain ⟨p', cap', rfl⟩ := hf _ _ hb
    go_enter Try.func34, Try.ntmps34
    go_wp2_with fail
    go_loop [5] (fun i => i = .int .i64 0) (fun i => 0)
    case atStart => rfl
    case round =>
      obtain rfl := hrel
      go_wp2
      go_ret
      exact ⟨rfl, (by repeat (first | exact Drew.refl _ | assumption | refine Drew.drewN ?_ _ | refine Drew.drew ?_))⟩
end Go.Proofs.Ytimfabpigpcjhaa
