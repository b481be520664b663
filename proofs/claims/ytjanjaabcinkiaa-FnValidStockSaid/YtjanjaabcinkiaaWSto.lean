/- The walk of the law FnValidStock; no statement is proved here. -/
import Derived.Test.YtjanjaabcinkiaaSto1
import Derived.Test.YtjanjaabcinkiaaSto2
import Derived.Test.YtjanjaabcinkiaaPlRm
namespace Go.Proofs.Ytjanjaabcinkiaa
open Go.ChangeShapes Go.WideShapes Go.ChangeAt Go.RowKit Go.Deep
set_option linter.unusedVariables false
set_option linter.unusedSimpArgs false

theorem lab_lt {ps : List Pc} (h : AllTo (stOk ps) ps.length) {a b : Nat} (hab : a < b) (hb : b < ps.length) : (pc ps a).l < (pc ps b).l := by
  induction b with
  | zero => omega
  | succ b ih =>
    have h1 := (stOk_iff.1 (h (b + 1) hb)).2
    have h2 : (pc ps b).l < (pc ps (b + 1)).l := by
      rcases h1 with e | e
      · omega
      · exact e
    rcases Nat.lt_succ_iff_lt_or_eq.1 hab with e | e
    · have := ih e (by omega); omega
    · rw [e]; exact h2
theorem pc_rm {ps : List Pc} {k : Nat} (hk : k < ps.length) (j : Nat) : pc (rm ps k) j = pc ps (sk k j) := rm_getD hk j _
theorem vS_rm {ps : List Pc} {k : Nat} (hk : k < ps.length) (h : vS ps = true) : vS (rm ps k) = true := by
  obtain ⟨h1, h2⟩ := vS_iff.1 h
  refine vS_iff.2 ⟨by rw [rm_len hk]; omega, fun j hj => ?_⟩
  rw [rm_len hk] at hj
  have hs := sk_lt (i := k) hj
  refine stOk_iff.2 ⟨by rw [pc_rm hk]; exact (stOk_iff.1 (h2 _ hs)).1, ?_⟩
  cases j with
  | zero => exact Or.inl rfl
  | succ j =>
    refine Or.inr ?_
    show (pc (rm ps k) j).l < _
    rw [pc_rm hk, pc_rm hk]
    exact lab_lt h2 (sk_mono (Nat.lt_succ_self j)) hs
theorem arS_rm {ps : List Pc} {k : Nat} (hk : k < ps.length) (m : Nat) : arS (rm ps k) m + (if m ≤ k then 0 else (pc ps k).x * (pc ps k).y) = arS ps (if m ≤ k then m else m + 1) := by
  induction m with
  | zero => rw [if_pos (Nat.zero_le _), if_pos (Nat.zero_le _)]; rfl
  | succ m ih =>
    have e : arS (rm ps k) (m + 1) = arS (rm ps k) m + (pc ps (sk k m)).x * (pc ps (sk k m)).y := by
      show _ + _ = _
      rw [pc_rm hk]
    have e2 : ∀ q, arS ps (q + 1) = arS ps q + (pc ps q).x * (pc ps q).y := fun q => rfl
    rw [e]
    unfold sk
    by_cases h1 : m < k
    · rw [if_pos h1, if_pos (show m + 1 ≤ k by omega), if_pos (show m + 1 ≤ k by omega), e2]
      rw [if_pos (show m ≤ k by omega), if_pos (show m ≤ k by omega)] at ih
      omega
    · rw [if_neg h1, if_neg (show ¬ m + 1 ≤ k by omega), if_neg (show ¬ m + 1 ≤ k by omega), e2 (m + 1)]
      by_cases h2 : m ≤ k
      · have h3 : m = k := by omega
        rw [if_pos h2, if_pos h2] at ih
        rw [h3] at ih ⊢
        rw [e2 k]
        omega
      · rw [if_neg h2, if_neg h2] at ih
        omega
theorem arS_less {ps : List Pc} {k : Nat} (hk : k < ps.length) : arS (rm ps k) (ps.length - 1) = arS ps ps.length - (pc ps k).x * (pc ps k).y := by
  have h := arS_rm hk (ps.length - 1)
  by_cases h1 : ps.length - 1 ≤ k
  · rw [if_pos h1, if_pos h1] at h
    have h2 : k = ps.length - 1 := by omega
    have h3 : arS ps (ps.length - 1 + 1) = arS ps (ps.length - 1) + (pc ps (ps.length - 1)).x * (pc ps (ps.length - 1)).y := rfl
    rw [show ps.length - 1 + 1 = ps.length by omega] at h3
    rw [← h2] at h h3 ⊢
    omega
  · rw [if_neg h1, if_neg h1, show ps.length - 1 + 1 = ps.length by omega] at h
    omega
theorem rm_mem {α : Type} {ls : List α} {i : Nat} {p : α} (h : p ∈ rm ls i) : p ∈ ls := by
  rcases List.mem_append.1 h with e | e
  · exact List.mem_of_mem_take e
  · exact List.mem_of_mem_drop e
theorem flatG_oneM {α : Type} {K : α → List Value} {p : Value → Prop} (xs : List α) (hK : ∀ a ∈ xs, ∀ u ∈ K a, p u) : ∀ u ∈ flatG K xs, p u := by
  induction xs with
  | nil => intro u hu; simp [flatG] at hu
  | cons a xs ih =>
    intro u hu
    rcases List.mem_append.1 hu with h | h
    · exact hK a (by simp) u h
    · exact ih (fun b hb => hK b (by simp [hb])) u h
theorem FA.one {w : World} {B : Nat} {ps : List Pc} (h : FA w B ps) : ∀ p ∈ ps, ∀ u ∈ pcK p, u.oneCell' = true := by
  intro p hp u hu
  obtain ⟨a, c, hv⟩ := (h p hp).1.form
  simp [pcK] at hu
  rcases hu with rfl | rfl | rfl | rfl
  · rfl
  · rfl
  · rfl
  · rw [hv]; rfl
set_option maxRecDepth 20000 in
set_option maxHeartbeats 4000000 in
theorem FnValidStock_walk (v : Value) (w : World) (hv : BSl w v) : Calls Try.prog 11 #[v] w (Rt (.bool true) w) := by
  have hv' := hv
  obtain ⟨p, nn, cap, rfl, _⟩ := hv'
  by_cases hn : 1048576 < nn
  · have d1 : decide (1048576 < (nn : Int)) = true := decide_eq_true (by omega)
    go_enter Try.func11, Try.ntmps11
    go_wp2
    go_ret
    exact ⟨rfl, Below.refl _ _⟩
  · have d1 : decide (1048576 < (nn : Int)) = false := decide_eq_false (by omega)
    obtain ⟨i0, hi, iz0, iz1, iz2⟩ := info_parts infoPiece
    go_enter Try.func11, Try.ntmps11
    go_wp2_with fail
    go_at_call 45
    refine (DrawValidStock_c hv).mono ?_
    rintro e w1 ⟨g, n, c, ps, rfl, ho, hf, hk, hb1⟩
    obtain ⟨hc1, hf1, -, hz1⟩ := bcell hb1
    (try simp at hz1)
    (try (have y1 : w.heap.size ≤ w1.heap.size := by omega))
    (try (have z1_0_0 : w.heap.size < w1.heap.size := by omega))
    (try (have z1_0_1 : w.heap.size + 1 < w1.heap.size := by omega))
    (try (have z1_0_2 : w.heap.size + 1 + 1 < w1.heap.size := by omega))
    (try (have z1_0_3 : w.heap.size + 1 + 1 + 1 < w1.heap.size := by omega))
    have hB1 : Below w.heap.size w w1 := (by repeat' (first | with_reducible exact Below.refl _ _ | with_reducible refine Below.alloc ?_ (by first | omega | (simp; done) | (simp; omega)) _ | with_reducible refine Below.drew ?_ | with_reducible refine below_drewN ?_ _ | with_reducible refine Below.setCell ?_ (by first | omega | (simp; done) | (simp; omega)) _ | with_reducible refine Below.grown ?_ (by assumption) (by first | omega | (simp; done) | (simp; omega)) (by intro k hk; cases hk; omega) | with_reducible refine Below.trans ?_ (Below.mono (by assumption) (by first | omega | (simp; done) | (simp; omega)))))
    clear hc1 hf1
    have C1 := fun W (hb : Below w1.heap.size w1 W) => impl_ValidStock_c (ho.below hb) (hf.below hb) (by omega)
    have C2 := fun W (hb : Below w1.heap.size w1 W) => spec_ValidStock_c (ho.below hb) (hf.below hb) (by omega)
    have HO := mkhid (⟨ho, hf⟩ : _ ∧ _)
    cases hval : vS ps
    · rw [hval] at C1 C2
      clear hval ho hf
      go_wp2_with fail
      go_at_call 46
      refine (C1 _ (by repeat' (first | with_reducible exact Below.refl _ _ | with_reducible refine Below.alloc ?_ (by first | omega | (simp; done) | (simp; omega)) _ | with_reducible refine Below.drew ?_ | with_reducible refine below_drewN ?_ _ | with_reducible refine Below.setCell ?_ (by first | omega | (simp; done) | (simp; omega)) _ | with_reducible refine Below.grown ?_ (by assumption) (by first | omega | (simp; done) | (simp; omega)) (by intro k hk; cases hk; omega) | with_reducible refine Below.trans ?_ (Below.mono (by assumption) (by first | omega | (simp; done) | (simp; omega)))))).mono ?_
      rintro e w2 ⟨rfl, hb2⟩
      obtain ⟨hc2, hf2, -, hz2⟩ := bcell hb2
      (try simp at hz2)
      (try (have y2 : w.heap.size ≤ w2.heap.size := by omega))
      (try (have z2_0_0 : w.heap.size < w2.heap.size := by omega))
      (try (have z2_0_1 : w.heap.size + 1 < w2.heap.size := by omega))
      (try (have z2_0_2 : w.heap.size + 1 + 1 < w2.heap.size := by omega))
      (try (have z2_0_3 : w.heap.size + 1 + 1 + 1 < w2.heap.size := by omega))
      (try (have z2_1_0 : w1.heap.size < w2.heap.size := by omega))
      (try (have z2_1_1 : w1.heap.size + 1 < w2.heap.size := by omega))
      go_wp2_with fail
      go_at_call 47
      refine (C2 _ (by repeat' (first | with_reducible exact Below.refl _ _ | with_reducible refine Below.alloc ?_ (by first | omega | (simp; done) | (simp; omega)) _ | with_reducible refine Below.drew ?_ | with_reducible refine below_drewN ?_ _ | with_reducible refine Below.setCell ?_ (by first | omega | (simp; done) | (simp; omega)) _ | with_reducible refine Below.grown ?_ (by assumption) (by first | omega | (simp; done) | (simp; omega)) (by intro k hk; cases hk; omega) | with_reducible refine Below.trans ?_ (Below.mono (by assumption) (by first | omega | (simp; done) | (simp; omega)))))).mono ?_
      rintro e w3 ⟨rfl, hb3⟩
      obtain ⟨hc3, hf3, -, hz3⟩ := bcell hb3
      (try simp at hz3)
      (try (have y3 : w.heap.size ≤ w3.heap.size := by omega))
      (try (have z3_0_0 : w.heap.size < w3.heap.size := by omega))
      (try (have z3_0_1 : w.heap.size + 1 < w3.heap.size := by omega))
      (try (have z3_0_2 : w.heap.size + 1 + 1 < w3.heap.size := by omega))
      (try (have z3_0_3 : w.heap.size + 1 + 1 + 1 < w3.heap.size := by omega))
      (try (have z3_1_0 : w1.heap.size < w3.heap.size := by omega))
      (try (have z3_1_1 : w1.heap.size + 1 < w3.heap.size := by omega))
      (try (have z3_2_0 : w2.heap.size < w3.heap.size := by omega))
      (try (have z3_2_1 : w2.heap.size + 1 < w3.heap.size := by omega))
      go_wp2_with fail
      go_at_call 47
      refine (C2 _ (by repeat' (first | with_reducible exact Below.refl _ _ | with_reducible refine Below.alloc ?_ (by first | omega | (simp; done) | (simp; omega)) _ | with_reducible refine Below.drew ?_ | with_reducible refine below_drewN ?_ _ | with_reducible refine Below.setCell ?_ (by first | omega | (simp; done) | (simp; omega)) _ | with_reducible refine Below.grown ?_ (by assumption) (by first | omega | (simp; done) | (simp; omega)) (by intro k hk; cases hk; omega) | with_reducible refine Below.trans ?_ (Below.mono (by assumption) (by first | omega | (simp; done) | (simp; omega)))))).mono ?_
      rintro e w4 ⟨rfl, hb4⟩
      obtain ⟨hc4, hf4, -, hz4⟩ := bcell hb4
      (try simp at hz4)
      (try (have y4 : w.heap.size ≤ w4.heap.size := by omega))
      (try (have z4_0_0 : w.heap.size < w4.heap.size := by omega))
      (try (have z4_0_1 : w.heap.size + 1 < w4.heap.size := by omega))
      (try (have z4_0_2 : w.heap.size + 1 + 1 < w4.heap.size := by omega))
      (try (have z4_0_3 : w.heap.size + 1 + 1 + 1 < w4.heap.size := by omega))
      (try (have z4_1_0 : w1.heap.size < w4.heap.size := by omega))
      (try (have z4_1_1 : w1.heap.size + 1 < w4.heap.size := by omega))
      (try (have z4_2_0 : w2.heap.size < w4.heap.size := by omega))
      (try (have z4_2_1 : w2.heap.size + 1 < w4.heap.size := by omega))
      (try (have z4_3_0 : w3.heap.size < w4.heap.size := by omega))
      (try (have z4_3_1 : w3.heap.size + 1 < w4.heap.size := by omega))
      go_wp2_with fail
      go_ret
      exact ⟨rfl, (by repeat' (first | with_reducible exact Below.refl _ _ | with_reducible refine Below.alloc ?_ (by first | omega | (simp; done) | (simp; omega)) _ | with_reducible refine Below.drew ?_ | with_reducible refine below_drewN ?_ _ | with_reducible refine Below.setCell ?_ (by first | omega | (simp; done) | (simp; omega)) _ | with_reducible refine Below.grown ?_ (by assumption) (by first | omega | (simp; done) | (simp; omega)) (by intro k hk; cases hk; omega) | with_reducible refine Below.trans ?_ (Below.mono (by assumption) (by first | omega | (simp; done) | (simp; omega)))))⟩
    · have CA := fun W (hb : Below w1.heap.size w1 W) => impl_StockArea_c (ho.below hb) (hf.below hb) (by omega) hval
      have hlen := ho.len
      have hS0 := fun i (hi : i < n) => stOk_sides (vS_iff.1 hval).2 (i := i) (by omega)
      have hab0 := arS_bd (vS_iff.1 hval).2 ps.length (Nat.le_refl _)
      rw [hlen] at hab0
      have HS := mkhid hS0
      have HAB := mkhid hab0
      have HONE := mkhid hf.one
      have HL := mkhid hlen
      have HV := mkhid hval
      rw [hval] at C1 C2
      clear hval ho hf hlen hS0 hab0
      go_wp2_with fail
      go_at_call 46
      refine (C1 _ (by repeat' (first | with_reducible exact Below.refl _ _ | with_reducible refine Below.alloc ?_ (by first | omega | (simp; done) | (simp; omega)) _ | with_reducible refine Below.drew ?_ | with_reducible refine below_drewN ?_ _ | with_reducible refine Below.setCell ?_ (by first | omega | (simp; done) | (simp; omega)) _ | with_reducible refine Below.grown ?_ (by assumption) (by first | omega | (simp; done) | (simp; omega)) (by intro k hk; cases hk; omega) | with_reducible refine Below.trans ?_ (Below.mono (by assumption) (by first | omega | (simp; done) | (simp; omega)))))).mono ?_
      rintro e w2 ⟨rfl, hb2⟩
      obtain ⟨hc2, hf2, -, hz2⟩ := bcell hb2
      (try simp at hz2)
      (try (have y2 : w.heap.size ≤ w2.heap.size := by omega))
      (try (have z2_0_0 : w.heap.size < w2.heap.size := by omega))
      (try (have z2_0_1 : w.heap.size + 1 < w2.heap.size := by omega))
      (try (have z2_0_2 : w.heap.size + 1 + 1 < w2.heap.size := by omega))
      (try (have z2_0_3 : w.heap.size + 1 + 1 + 1 < w2.heap.size := by omega))
      (try (have z2_1_0 : w1.heap.size < w2.heap.size := by omega))
      (try (have z2_1_1 : w1.heap.size + 1 < w2.heap.size := by omega))
      go_wp2_with fail
      go_at_call 47
      refine (C2 _ (by repeat' (first | with_reducible exact Below.refl _ _ | with_reducible refine Below.alloc ?_ (by first | omega | (simp; done) | (simp; omega)) _ | with_reducible refine Below.drew ?_ | with_reducible refine below_drewN ?_ _ | with_reducible refine Below.setCell ?_ (by first | omega | (simp; done) | (simp; omega)) _ | with_reducible refine Below.grown ?_ (by assumption) (by first | omega | (simp; done) | (simp; omega)) (by intro k hk; cases hk; omega) | with_reducible refine Below.trans ?_ (Below.mono (by assumption) (by first | omega | (simp; done) | (simp; omega)))))).mono ?_
      rintro e w3 ⟨rfl, hb3⟩
      obtain ⟨hc3, hf3, -, hz3⟩ := bcell hb3
      (try simp at hz3)
      (try (have y3 : w.heap.size ≤ w3.heap.size := by omega))
      (try (have z3_0_0 : w.heap.size < w3.heap.size := by omega))
      (try (have z3_0_1 : w.heap.size + 1 < w3.heap.size := by omega))
      (try (have z3_0_2 : w.heap.size + 1 + 1 < w3.heap.size := by omega))
      (try (have z3_0_3 : w.heap.size + 1 + 1 + 1 < w3.heap.size := by omega))
      (try (have z3_1_0 : w1.heap.size < w3.heap.size := by omega))
      (try (have z3_1_1 : w1.heap.size + 1 < w3.heap.size := by omega))
      (try (have z3_2_0 : w2.heap.size < w3.heap.size := by omega))
      (try (have z3_2_1 : w2.heap.size + 1 < w3.heap.size := by omega))
      go_wp2_with fail
      have hB3 : Below w1.heap.size w1 w3 := (by repeat' (first | with_reducible exact Below.refl _ _ | with_reducible refine Below.alloc ?_ (by first | omega | (simp; done) | (simp; omega)) _ | with_reducible refine Below.drew ?_ | with_reducible refine below_drewN ?_ _ | with_reducible refine Below.setCell ?_ (by first | omega | (simp; done) | (simp; omega)) _ | with_reducible refine Below.grown ?_ (by assumption) (by first | omega | (simp; done) | (simp; omega)) (by intro k hk; cases hk; omega) | with_reducible refine Below.trans ?_ (Below.mono (by assumption) (by first | omega | (simp; done) | (simp; omega)))))
      clear C1 C2 hc2 hc3 hf2 hf3 hb1 hb2 hb3 hz1 hz2 hz3
      go_loopw [5] (fun i wr => ∃ k : Nat, k ≤ n ∧ i = .int .i64 k ∧ Below w1.heap.size w1 wr) (fun i _ => n - (intOf i).toNat)
      case atStart => exact ⟨0, Nat.zero_le _, rfl, hB3⟩
      case round =>
        obtain ⟨k, hk', rfl, hbr⟩ := hrel
        by_cases hlt : k < n
        · have i1 : (0 : Int) ≤ (k : Int) := by omega
          have i2 : (k : Int) < (n : Int) := by omega
          have i3 : (k : Int) ≤ (n : Int) := by omega
          have hor := HO.out.1.below hbr
          obtain ⟨hcap1, hcap2⟩ := hor.cap
          have hcm := hcap2
          unfold maxLen at hcm
          have i4 : (k : Int) ≤ (c : Int) := by omega
          have i5 : (k : Int) + 1 ≤ (n : Int) := by omega
          have i6 : (n : Int) ≤ (c : Int) := by omega
          have i7 : (k : Int) + 1 ≤ (c : Int) := by omega
          have hnl := hor.lt
          obtain ⟨f1, f2⟩ := hor.news (k := k) (by omega)
          obtain ⟨r1, r2⟩ := hor.rest (k := k + 1) (by omega)
          have hl5 := hor.len
          have F1 := fun W (hb : Below wr.heap.size wr W) j u (hu : (flatG pcK (ps.take k))[j]? = some u) => (hb.cell (p := Addr.add ⟨g, 0, none⟩ j) (by rw [Go.WideShapes.add_plain]; exact hnl)).trans (f2 j u hu)
          have F2 := fun W (hb : Below wr.heap.size wr W) j u (hu : (flatG pcK (ps.drop (k + 1)))[j]? = some u) => (hb.cell (p := Addr.add ⟨g, (k + 1) * 4, none⟩ j) (by rw [Go.WideShapes.add_plain]; exact hnl)).trans (r2 j u hu)
          have hone1 := flatG_oneM (p := fun u => u.oneCell' = true) (ps.take k) (fun a ha => HONE.out a (List.mem_of_mem_take ha))
          have hone2 := flatG_oneM (p := fun u => u.oneCell' = true) (ps.drop (k + 1)) (fun a ha => HONE.out a (List.mem_of_mem_drop ha))
          have HVR := mkhid (vS_rm (show k < ps.length by omega) HV.out)
          have HLS := mkhid (arS_less (show k < ps.length by omega))
          have HFR := mkhid (fun W (hb : Below w1.heap.size w1 W) W' (hb' : Below W.heap.size W W') => (show FA W' w.heap.size (rm ps k) from fun p hp => ((HO.out.2.below hb).below hb') p (rm_mem hp)))
          have G1 := mkhid F1
          have G2 := mkhid F2
          clear f2 r2 F1 F2
          have i9 : (0 : Int) ≤ (k : Int) + 1 := by omega
          have i10 : ((k : Int) + 1).toNat = k + 1 := by omega
          have i11 : IntKind.i64.wrap ((k : Int) + 1) = (k : Int) + 1 := IntWalk.i64_in _ (by omega)
          have i12 : (k : Int) ≤ (k : Int) + 1 := by omega
          have hzr := hbr.size
          by_cases hca : k + 1 = c
          · have hdr : ps.drop (k + 1) = [] := List.drop_eq_nil_of_le (by omega)
            have hrm : rm ps k = ps.take k ++ [] := by unfold rm; rw [hdr]
            have hn1 : ps.length - 1 = k := by omega
            have HRM := mkhid (⟨hrm, hn1⟩ : _ ∧ _)
            clear hrm hdr hn1
            go_wp2_with fail
            go_region_law (first
              | (refine step_append_own rfl (.tmp 32) (.tmp 35) 70 rfl wr.heap.size 65 i0 (.agg #[.int .i64 0, .int .i64 0, .int .i64 0, .slice none 0 0]) 4 48 Try.underlying70 hi iz0 iz1 iz2 rfl (by decide) _ 0 [] rfl (OG.empty (b := wr.heap.size) pcK_len (by omega) (by first | rfl | simp) (by first | rfl | simp)).row ⟨g, 0, none⟩ k _ (flatG pcK (ps.take k)) rfl f1 (G1.out _ (by repeat' (first | with_reducible exact Below.refl _ _ | with_reducible refine Below.alloc ?_ (by first | omega | (simp; done) | (simp; omega)) _ | with_reducible refine Below.drew ?_ | with_reducible refine below_drewN ?_ _ | with_reducible refine Below.setCell ?_ (by first | omega | (simp; done) | (simp; omega)) _ | with_reducible refine Below.grown ?_ (by assumption) (by first | omega | (simp; done) | (simp; omega)) (by intro k hk; cases hk; omega) | with_reducible refine Below.trans ?_ (Below.mono (by assumption) (by first | omega | (simp; done) | (simp; omega)))))) hone1 (by unfold maxLen; omega) (by omega) (by first | omega | (simp; done) | (simp; omega)) ?_; intro v4 w4 hown4 hgrow4 hnil4; obtain ⟨g4, c4, rfl, ho4⟩ := OG.app (OG.empty (w := wr) (B := wr.heap.size) (b := wr.heap.size) pcK_len (by omega) (Nat.le_refl _) rfl) (ys := ps.take k) (q := k) (by rw [List.length_take]; omega) rfl hown4 hnil4; rw [List.nil_append, Nat.zero_add] at ho4; have hgr4 : World.grownBy _ w4 (some wr.heap.size) := hgrow4; have hb4 : Below wr.heap.size wr w4 := Below.grown (by repeat' (first | with_reducible exact Below.refl _ _ | with_reducible refine Below.alloc ?_ (by first | omega | (simp; done) | (simp; omega)) _ | with_reducible refine Below.drew ?_ | with_reducible refine below_drewN ?_ _ | with_reducible refine Below.setCell ?_ (by first | omega | (simp; done) | (simp; omega)) _ | with_reducible refine Below.grown ?_ (by assumption) (by first | omega | (simp; done) | (simp; omega)) (by intro k hk; cases hk; omega) | with_reducible refine Below.trans ?_ (Below.mono (by assumption) (by first | omega | (simp; done) | (simp; omega))))) hgr4 (by first | omega | (simp; done) | (simp; omega)) (fun q hq => by cases hq; omega); have hz4 := hb4.size; clear hown4 hgrow4 hnil4 hgr4)
              | (refine step_append_own rfl (.tmp 36) (.tmp 40) 70 rfl wr.heap.size 65 i0 (.agg #[.int .i64 0, .int .i64 0, .int .i64 0, .slice none 0 0]) 4 48 Try.underlying70 hi iz0 iz1 iz2 rfl (by decide) _ k _ rfl ho4.row ⟨g, 0, none⟩ 0 _ [] rfl rfl (by intro j u hu; simp at hu) (by intro u hu; simp at hu) (by unfold maxLen; omega) (by omega) (by first | omega | (simp; done) | (simp; omega)) ?_; intro v5 w5 hown5 hgrow5 hnil5; obtain ⟨g5, c5, rfl, ho5⟩ := OG.app ho4 (ys := []) (q := 0) rfl rfl hown5 hnil5; have hgr5 : World.grownBy w4 w5 (some g4) := hgrow5; have hge4 := ho4.ge; have hb5 : Below wr.heap.size wr w5 := Below.grown hb4 hgr5 (by omega) (fun q hq => by cases hq; omega); have hz5 := hb5.size; clear hown5 hgrow5 hnil5 hgr5))
            rw [← HRM.out.1, Nat.add_zero] at ho5
            (try simp only [List.getElem_toArray, List.getElem_cons_succ, List.getElem_cons_zero, Act.put, List.setIfInBounds_toArray, List.set_cons_zero, List.set_cons_succ])
            have hb1w : Below w1.heap.size w1 w5 := hbr.trans (hb5.mono hbr.size)
            have V1 := fun z : Bw w5 => impl_ValidStock_c (ho5.below z.h) (HFR.out w5 hb1w z.w z.h) (by omega)
            have A1 := fun z : Bw w5 => impl_StockArea_c (ho5.below z.h) (HFR.out w5 hb1w z.w z.h) (by omega) HVR.out
            have A2 := fun z : Bw w5 => CA z.w (hb1w.trans (z.h.mono hb1w.size))
            rw [HVR.out] at V1
            have hls := HLS.out
            rw [HRM.out.2, HL.out] at hls
            rw [hls] at A1
            clear hls
            obtain ⟨-, c1, c2, -⟩ := op_cells (HO.out.1.below hb1w) hlt
            obtain ⟨x1, hx1⟩ : ∃ x, x = (pc ps k).x := ⟨_, rfl⟩
            obtain ⟨x2, hx2⟩ : ∃ x, x = (pc ps k).y := ⟨_, rfl⟩
            obtain ⟨S, hS⟩ : ∃ S, S = arS ps n := ⟨_, rfl⟩
            rw [← hx1] at c1 A1
            rw [← hx2] at c2 A1
            rw [← hS] at A1 A2
            have hsd := mul_bd (HS.out k hlt).1 (HS.out k hlt).2
            have hab := HAB.out
            rw [← hx1, ← hx2] at hsd
            rw [← hS] at hab
            have e1 : IntKind.i64.wrap (x1 * x2) = x1 * x2 := IntWalk.i64_in _ (by omega)
            have e2 : IntKind.i64.wrap (S - x1 * x2) = S - x1 * x2 := IntWalk.i64_in _ (by omega)
            have F1 := fun z : Bw w5 => z.cell c1
            have F2 := fun z : Bw w5 => z.cell c2
            clear hx1 hx2 hS hsd hab CA
            go_wp2_with fail
            refine region_bw (W := w5) (by kernel_rfl) (by kernel_rfl) (Below.refl _ _) ?_
            repeat (go_big_quiet_step ((first | (go_at_call 46; exact calls_bw (V1 _)) | (go_at_call 48; first | with_reducible exact calls_bw (A2 _) | exact calls_bw (A1 _)))))
            refine wpQuiet_nil ?_
            rintro _ ⟨⟨wz, hbwz⟩, rfl⟩
            (try dsimp only)
            go_wp2_with fail
            go_roundw
            case rel => exact ⟨k + 1, by omega, by go_num, hb1w.trans (hbwz.mono hb1w.size)⟩
            case measure => first | (simp [intOf]; done) | (simp [intOf]; omega)
          · have hca' : ¬ (c = k + 1) := fun e => hca e.symm
            have hn1 : ps.length - 1 = k + (n - (k + 1)) := by omega
            have HRM := mkhid hn1
            clear hn1
            go_wp2_with fail
            go_region_law (first
              | (refine step_append_own rfl (.tmp 32) (.tmp 35) 70 rfl wr.heap.size 65 i0 (.agg #[.int .i64 0, .int .i64 0, .int .i64 0, .slice none 0 0]) 4 48 Try.underlying70 hi iz0 iz1 iz2 rfl (by decide) _ 0 [] rfl (OG.empty (b := wr.heap.size) pcK_len (by omega) (by first | rfl | simp) (by first | rfl | simp)).row ⟨g, 0, none⟩ k _ (flatG pcK (ps.take k)) rfl f1 (G1.out _ (by repeat' (first | with_reducible exact Below.refl _ _ | with_reducible refine Below.alloc ?_ (by first | omega | (simp; done) | (simp; omega)) _ | with_reducible refine Below.drew ?_ | with_reducible refine below_drewN ?_ _ | with_reducible refine Below.setCell ?_ (by first | omega | (simp; done) | (simp; omega)) _ | with_reducible refine Below.grown ?_ (by assumption) (by first | omega | (simp; done) | (simp; omega)) (by intro k hk; cases hk; omega) | with_reducible refine Below.trans ?_ (Below.mono (by assumption) (by first | omega | (simp; done) | (simp; omega)))))) hone1 (by unfold maxLen; omega) (by omega) (by first | omega | (simp; done) | (simp; omega)) ?_; intro v4 w4 hown4 hgrow4 hnil4; obtain ⟨g4, c4, rfl, ho4⟩ := OG.app (OG.empty (w := wr) (B := wr.heap.size) (b := wr.heap.size) pcK_len (by omega) (Nat.le_refl _) rfl) (ys := ps.take k) (q := k) (by rw [List.length_take]; omega) rfl hown4 hnil4; rw [List.nil_append, Nat.zero_add] at ho4; have hgr4 : World.grownBy _ w4 (some wr.heap.size) := hgrow4; have hb4 : Below wr.heap.size wr w4 := Below.grown (by repeat' (first | with_reducible exact Below.refl _ _ | with_reducible refine Below.alloc ?_ (by first | omega | (simp; done) | (simp; omega)) _ | with_reducible refine Below.drew ?_ | with_reducible refine below_drewN ?_ _ | with_reducible refine Below.setCell ?_ (by first | omega | (simp; done) | (simp; omega)) _ | with_reducible refine Below.grown ?_ (by assumption) (by first | omega | (simp; done) | (simp; omega)) (by intro k hk; cases hk; omega) | with_reducible refine Below.trans ?_ (Below.mono (by assumption) (by first | omega | (simp; done) | (simp; omega))))) hgr4 (by first | omega | (simp; done) | (simp; omega)) (fun q hq => by cases hq; omega); have hz4 := hb4.size; clear hown4 hgrow4 hnil4 hgr4)
              | (refine step_append_own rfl (.tmp 36) (.tmp 40) 70 rfl wr.heap.size 65 i0 (.agg #[.int .i64 0, .int .i64 0, .int .i64 0, .slice none 0 0]) 4 48 Try.underlying70 hi iz0 iz1 iz2 rfl (by decide) _ k _ rfl ho4.row ⟨g, (k + 1) * 4, none⟩ (n - (k + 1)) _ (flatG pcK (ps.drop (k + 1))) rfl r1 (G2.out _ hb4) hone2 (by unfold maxLen; omega) (by omega) (by first | omega | (simp; done) | (simp; omega)) ?_; intro v5 w5 hown5 hgrow5 hnil5; obtain ⟨g5, c5, rfl, ho5⟩ := OG.app ho4 (ys := ps.drop (k + 1)) (q := n - (k + 1)) (by rw [List.length_drop]; omega) rfl hown5 hnil5; have hgr5 : World.grownBy w4 w5 (some g4) := hgrow5; have hge4 := ho4.ge; have hb5 : Below wr.heap.size wr w5 := Below.grown hb4 hgr5 (by omega) (fun q hq => by cases hq; omega); have hz5 := hb5.size; clear hown5 hgrow5 hnil5 hgr5))
            have ho5 : OP w5 _ g5 (k + (n - (k + 1))) c5 (rm ps k) := ho5
            have hr1000 : k + (n - (k + 1)) ≤ 1000 := by omega
            generalize k + (n - (k + 1)) = r at ho5 hr1000 HRM ⊢
            (try simp only [List.getElem_toArray, List.getElem_cons_succ, List.getElem_cons_zero, Act.put, List.setIfInBounds_toArray, List.set_cons_zero, List.set_cons_succ])
            have hb1w : Below w1.heap.size w1 w5 := hbr.trans (hb5.mono hbr.size)
            have V1 := fun z : Bw w5 => impl_ValidStock_c (ho5.below z.h) (HFR.out w5 hb1w z.w z.h) (by omega)
            have A1 := fun z : Bw w5 => impl_StockArea_c (ho5.below z.h) (HFR.out w5 hb1w z.w z.h) (by omega) HVR.out
            have A2 := fun z : Bw w5 => CA z.w (hb1w.trans (z.h.mono hb1w.size))
            rw [HVR.out] at V1
            have hls := HLS.out
            rw [HRM.out, HL.out] at hls
            rw [hls] at A1
            clear hls
            obtain ⟨-, c1, c2, -⟩ := op_cells (HO.out.1.below hb1w) hlt
            obtain ⟨x1, hx1⟩ : ∃ x, x = (pc ps k).x := ⟨_, rfl⟩
            obtain ⟨x2, hx2⟩ : ∃ x, x = (pc ps k).y := ⟨_, rfl⟩
            obtain ⟨S, hS⟩ : ∃ S, S = arS ps n := ⟨_, rfl⟩
            rw [← hx1] at c1 A1
            rw [← hx2] at c2 A1
            rw [← hS] at A1 A2
            have hsd := mul_bd (HS.out k hlt).1 (HS.out k hlt).2
            have hab := HAB.out
            rw [← hx1, ← hx2] at hsd
            rw [← hS] at hab
            have e1 : IntKind.i64.wrap (x1 * x2) = x1 * x2 := IntWalk.i64_in _ (by omega)
            have e2 : IntKind.i64.wrap (S - x1 * x2) = S - x1 * x2 := IntWalk.i64_in _ (by omega)
            have F1 := fun z : Bw w5 => z.cell c1
            have F2 := fun z : Bw w5 => z.cell c2
            clear hx1 hx2 hS hsd hab CA
            go_wp2_with fail
            refine region_bw (W := w5) (by kernel_rfl) (by kernel_rfl) (Below.refl _ _) ?_
            repeat (go_big_quiet_step ((first | (go_at_call 46; exact calls_bw (V1 _)) | (go_at_call 48; first | with_reducible exact calls_bw (A2 _) | exact calls_bw (A1 _)))))
            refine wpQuiet_nil ?_
            rintro _ ⟨⟨wz, hbwz⟩, rfl⟩
            (try dsimp only)
            go_wp2_with fail
            go_roundw
            case rel => exact ⟨k + 1, by omega, by go_num, hb1w.trans (hbwz.mono hb1w.size)⟩
            case measure => first | (simp [intOf]; done) | (simp [intOf]; omega)
        · have hk2 : k = n := by omega
          have A2 := fun z : Bw wr => CA z.w (hbr.trans (z.h.mono hbr.size))
          obtain ⟨S, hS⟩ : ∃ S, S = arS ps n := ⟨_, rfl⟩
          have hab := HAB.out
          rw [← hS] at hab A2
          have e1 : decide ((n : Int) ≤ S) = true := decide_eq_true hab.1
          have CS := fun W (hb : Below w1.heap.size w1 W) => CA W hb
          rw [← hS] at CS
          clear hS hab CA
          go_wp2_with fail
          go_at_call 48
          refine (CS _ (by have := hbr; exact (by repeat' (first | with_reducible exact Below.refl _ _ | with_reducible refine Below.alloc ?_ (by first | omega | (simp; done) | (simp; omega)) _ | with_reducible refine Below.drew ?_ | with_reducible refine below_drewN ?_ _ | with_reducible refine Below.setCell ?_ (by first | omega | (simp; done) | (simp; omega)) _ | with_reducible refine Below.grown ?_ (by assumption) (by first | omega | (simp; done) | (simp; omega)) (by intro k hk; cases hk; omega) | with_reducible refine Below.trans ?_ (Below.mono (by assumption) (by first | omega | (simp; done) | (simp; omega))))))).mono ?_
          rintro e w4 ⟨rfl, hb4⟩
          obtain ⟨hc4, hf4, -, hz4⟩ := bcell hb4
          (try simp at hz4)
          (try (have y4 : w.heap.size ≤ w4.heap.size := by omega))
          (try (have z4_0_0 : w.heap.size < w4.heap.size := by omega))
          (try (have z4_0_1 : w.heap.size + 1 < w4.heap.size := by omega))
          (try (have z4_0_2 : w.heap.size + 1 + 1 < w4.heap.size := by omega))
          (try (have z4_0_3 : w.heap.size + 1 + 1 + 1 < w4.heap.size := by omega))
          (try (have z4_1_0 : w1.heap.size < w4.heap.size := by omega))
          (try (have z4_1_1 : w1.heap.size + 1 < w4.heap.size := by omega))
          (try (have z4_2_0 : w2.heap.size < w4.heap.size := by omega))
          (try (have z4_2_1 : w2.heap.size + 1 < w4.heap.size := by omega))
          (try (have z4_3_0 : w3.heap.size < w4.heap.size := by omega))
          (try (have z4_3_1 : w3.heap.size + 1 < w4.heap.size := by omega))
          go_wp2_with fail
          go_ret
          exact ⟨rfl, (hB1.trans (hbr.mono hB1.size)).trans (hb4.mono (Nat.le_trans hB1.size hbr.size))⟩
end Go.Proofs.Ytjanjaabcinkiaa
