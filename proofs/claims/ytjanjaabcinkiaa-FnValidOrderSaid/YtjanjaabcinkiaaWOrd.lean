/- The walk of the law FnValidOrder; no statement is proved here. -/
import Derived.Test.YtjanjaabcinkiaaDrL
import Derived.Test.YtjanjaabcinkiaaPlRm
import Derived.Test.YtjanjaabcinkiaaOrd2
import Derived.Test.YtjanjaabcinkiaaOrd3
namespace Go.Proofs.Ytjanjaabcinkiaa
open Go.ChangeShapes Go.WideShapes Go.ChangeAt Go.RowKit Go.Deep
set_option linter.unusedVariables false
set_option linter.unusedSimpArgs false

def ln (ls : List Ln) (i : Nat) : Ln := ls.getD i ⟨0, 0, false, 0, 0⟩
def l0 (ls : List Ln) (i : Nat) : Int := (ln ls i).w
def l1 (ls : List Ln) (i : Nat) : Int := (ln ls i).h
def l2 (ls : List Ln) (i : Nat) : Bool := (ln ls i).t
def l3 (ls : List Ln) (i : Nat) : Int := (ln ls i).k
def l4 (ls : List Ln) (i : Nat) : Int := (ln ls i).c
def vO (ls : List Ln) : Bool := vOrd (l0 ls) (l1 ls) (l2 ls) (l3 ls) (l4 ls) ls.length
theorem ol_rsl {w : World} {B g n c : Nat} {ls : List Ln} (h : OL w B g n c ls) (hl : n ≤ 1048576) : RSl w g 0 n c 5 (lineF (l0 ls) (l1 ls) (l2 ls) (l3 ls) (l4 ls)) := by
  refine h.rsl hl _ fun i j hi hj => ?_
  have e : ln ls i = ls[i] := by simp [ln, hi]
  match j, hj with
  | 0, _ => simp [lnK, lineF, l0, e]
  | 1, _ => simp [lnK, lineF, l1, e]
  | 2, _ => simp [lnK, lineF, l2, e]
  | 3, _ => simp [lnK, lineF, l3, e]
  | 4, _ => simp [lnK, lineF, l4, e]
theorem ctS_rm {ls : List Ln} {i : Nat} (hi : i < ls.length) (hpos : ∀ j, j < ls.length → 1 ≤ l4 ls j) (m : Nat) (hm : m ≤ ls.length - 1) : ctS (l4 (rm ls i)) m ≤ ctS (l4 ls) (if m ≤ i then m else m + 1) := by
  induction m with
  | zero => rw [if_pos (by omega), ctS_zero, ctS_zero]; exact Int.le_refl _
  | succ m ih =>
    have := ih (by omega)
    have e : l4 (rm ls i) m = l4 ls (sk i m) := by unfold l4 ln; rw [rm_getD hi]
    rw [ctS_succ, e]
    unfold sk
    by_cases h1 : m < i
    · rw [if_pos h1, if_pos (by omega)]
      rw [if_pos (by omega)] at this
      rw [ctS_succ]; omega
    · rw [if_neg h1, if_neg (by omega), ctS_succ]
      by_cases h2 : m ≤ i
      · rw [if_pos h2] at this
        have e2 : m = i := by omega
        have := hpos m (by omega)
        rw [ctS_succ]; omega
      · rw [if_neg h2] at this; omega
theorem vO_rm {ls : List Ln} {i : Nat} (hi : i < ls.length) (h : vO ls = true) : vO (rm ls i) = true := by
  unfold vO at h ⊢
  obtain ⟨h1, h2, h3⟩ := vOrd_iff.1 h
  rw [rm_len hi]
  have hpos : ∀ j, j < ls.length → 1 ≤ l4 ls j := fun j hj => (lnOk_iff.1 (h2 j hj)).2.1.1
  refine vOrd_iff.2 ⟨by omega, fun k hk => ?_, ?_⟩
  · have hs := sk_lt (i := i) hk
    obtain ⟨p1, p2, p3⟩ := lnOk_iff.1 (h2 _ hs)
    have e : ∀ j, ln (rm ls i) j = ln ls (sk i j) := fun j => rm_getD hi j _
    refine lnOk_iff.2 ⟨?_, ?_, fun j hj => ?_⟩
    · unfold l0 l1 l3; rw [e]; exact p1
    · unfold l4; rw [e]; exact p2
    · have := p3 (sk i j) (sk_mono hj)
      unfold lnI l0 l1 l2 l3 at this ⊢
      rw [e, e]; exact this
  · have := ctS_rm hi hpos (ls.length - 1) (Nat.le_refl _)
    have h5 := (ctS_bd h2 (Nat.le_refl _)).2
    by_cases h6 : ls.length - 1 ≤ i
    · rw [if_pos h6] at this
      have hm := ctS_mono (k := ls.length - 1) (m := 1) h2 (by omega)
      rw [show ls.length - 1 + 1 = ls.length by omega] at hm
      omega
    · rw [if_neg h6, show ls.length - 1 + 1 = ls.length by omega] at this
      omega
set_option maxHeartbeats 3000000 in
set_option maxRecDepth 20000 in
theorem FnValidOrder_walk (v : Value) (w : World) (hv : BSl w v) : Calls Try.prog 13 #[v] w (Rt (.bool true) w) := by
  have hv' := hv
  obtain ⟨p, n, cap, rfl, _⟩ := hv'
  by_cases hn : 1048576 < n
  · have d1 : decide (1048576 < (n : Int)) = true := decide_eq_true (by omega)
    go_enter Try.func13, Try.ntmps13
    go_wp2
    go_ret
    exact ⟨rfl, Below.refl _ _⟩
  · have d1 : decide (1048576 < (n : Int)) = false := decide_eq_false (by omega)
    obtain ⟨i0, hi, iz0, iz1, iz2⟩ := info_parts infoLine
    go_enter Try.func13, Try.ntmps13
    go_wp2_with fail
    go_at_call 51
    refine (DrawValidOrder_c hv).mono ?_
    rintro e w1 ⟨g, l, c, ls, rfl, ho, hk, hb1⟩
    obtain ⟨hc1, hf1, -, hz1⟩ := bcell hb1
    (try simp at hz1)
    (try (have y1 : w.heap.size ≤ w1.heap.size := by omega))
    (try (have z1_0_0 : w.heap.size < w1.heap.size := by omega))
    (try (have z1_0_1 : w.heap.size + 1 < w1.heap.size := by omega))
    (try (have z1_0_2 : w.heap.size + 1 + 1 < w1.heap.size := by omega))
    (try (have z1_0_3 : w.heap.size + 1 + 1 + 1 < w1.heap.size := by omega))
    have hB1 : Below w.heap.size w w1 := (by repeat' (first | with_reducible exact Below.refl _ _ | with_reducible refine Below.alloc ?_ (by first | omega | (simp; done) | (simp; omega)) _ | with_reducible refine Below.drew ?_ | with_reducible refine below_drewN ?_ _ | with_reducible refine Below.setCell ?_ (by first | omega | (simp; done) | (simp; omega)) _ | with_reducible refine Below.grown ?_ (by assumption) (by first | omega | (simp; done) | (simp; omega)) (by intro k hk; cases hk; omega) | with_reducible refine Below.trans ?_ (Below.mono (by assumption) (by first | omega | (simp; done) | (simp; omega)))))
    clear hc1 hf1
    have C1 := fun W (hb : Below w1.heap.size w1 W) => impl_ValidOrder_s (ol_rsl (ho.below hb) (by omega))
    have C2 := fun W (hb : Below w1.heap.size w1 W) => spec_ValidOrder_s (ol_rsl (ho.below hb) (by omega))
    have hlen := ho.len
    have hvO : vOrd (l0 ls) (l1 ls) (l2 ls) (l3 ls) (l4 ls) l = vO ls := by unfold vO; rw [hlen]
    rw [hvO] at C1 C2
    clear hvO
    cases hval : vO ls
    · rw [hval] at C1 C2
      clear hval
      go_wp2_with fail
      go_at_call 29
      refine (C1 _ (by repeat' (first | with_reducible exact Below.refl _ _ | with_reducible refine Below.alloc ?_ (by first | omega | (simp; done) | (simp; omega)) _ | with_reducible refine Below.drew ?_ | with_reducible refine below_drewN ?_ _ | with_reducible refine Below.setCell ?_ (by first | omega | (simp; done) | (simp; omega)) _ | with_reducible refine Below.grown ?_ (by assumption) (by first | omega | (simp; done) | (simp; omega)) (by intro k hk; cases hk; omega) | with_reducible refine Below.trans ?_ (Below.mono (by assumption) (by first | omega | (simp; done) | (simp; omega)))))).mono ?_
      rintro e w2 ⟨rfl, hb2⟩
      obtain ⟨hc2, hf2, -, hz2⟩ := bcell hb2
      (try simp at hz2)
      (try (have y2 : w.heap.size ≤ w2.heap.size := by omega))
      (try (have z2_0_0 : w.heap.size < w2.heap.size := by omega))
      (try (have z2_0_1 : w.heap.size + 1 < w2.heap.size := by omega))
      (try (have z2_0_2 : w.heap.size + 1 + 1 < w2.heap.size := by omega))
      (try (have z2_0_3 : w.heap.size + 1 + 1 + 1 < w2.heap.size := by omega))
      (try (have z2_1_0 : w1.heap.size < w2.heap.size := by omega))
      (try (have z2_1_1 : w1.heap.size + 1 < w2.heap.size := by omega))
      go_wp2_with fail
      go_at_call 27
      refine (C2 _ (by repeat' (first | with_reducible exact Below.refl _ _ | with_reducible refine Below.alloc ?_ (by first | omega | (simp; done) | (simp; omega)) _ | with_reducible refine Below.drew ?_ | with_reducible refine below_drewN ?_ _ | with_reducible refine Below.setCell ?_ (by first | omega | (simp; done) | (simp; omega)) _ | with_reducible refine Below.grown ?_ (by assumption) (by first | omega | (simp; done) | (simp; omega)) (by intro k hk; cases hk; omega) | with_reducible refine Below.trans ?_ (Below.mono (by assumption) (by first | omega | (simp; done) | (simp; omega)))))).mono ?_
      rintro e w3 ⟨rfl, hb3⟩
      obtain ⟨hc3, hf3, -, hz3⟩ := bcell hb3
      (try simp at hz3)
      (try (have y3 : w.heap.size ≤ w3.heap.size := by omega))
      (try (have z3_0_0 : w.heap.size < w3.heap.size := by omega))
      (try (have z3_0_1 : w.heap.size + 1 < w3.heap.size := by omega))
      (try (have z3_0_2 : w.heap.size + 1 + 1 < w3.heap.size := by omega))
      (try (have z3_0_3 : w.heap.size + 1 + 1 + 1 < w3.heap.size := by omega))
      (try (have z3_1_0 : w1.heap.size < w3.heap.size := by omega))
      (try (have z3_1_1 : w1.heap.size + 1 < w3.heap.size := by omega))
      (try (have z3_2_0 : w2.heap.size < w3.heap.size := by omega))
      (try (have z3_2_1 : w2.heap.size + 1 < w3.heap.size := by omega))
      go_wp2_with fail
      go_at_call 27
      refine (C2 _ (by repeat' (first | with_reducible exact Below.refl _ _ | with_reducible refine Below.alloc ?_ (by first | omega | (simp; done) | (simp; omega)) _ | with_reducible refine Below.drew ?_ | with_reducible refine below_drewN ?_ _ | with_reducible refine Below.setCell ?_ (by first | omega | (simp; done) | (simp; omega)) _ | with_reducible refine Below.grown ?_ (by assumption) (by first | omega | (simp; done) | (simp; omega)) (by intro k hk; cases hk; omega) | with_reducible refine Below.trans ?_ (Below.mono (by assumption) (by first | omega | (simp; done) | (simp; omega)))))).mono ?_
      rintro e w4 ⟨rfl, hb4⟩
      obtain ⟨hc4, hf4, -, hz4⟩ := bcell hb4
      (try simp at hz4)
      (try (have y4 : w.heap.size ≤ w4.heap.size := by omega))
      (try (have z4_0_0 : w.heap.size < w4.heap.size := by omega))
      (try (have z4_0_1 : w.heap.size + 1 < w4.heap.size := by omega))
      (try (have z4_0_2 : w.heap.size + 1 + 1 < w4.heap.size := by omega))
      (try (have z4_0_3 : w.heap.size + 1 + 1 + 1 < w4.heap.size := by omega))
      (try (have z4_1_0 : w1.heap.size < w4.heap.size := by omega))
      (try (have z4_1_1 : w1.heap.size + 1 < w4.heap.size := by omega))
      (try (have z4_2_0 : w2.heap.size < w4.heap.size := by omega))
      (try (have z4_2_1 : w2.heap.size + 1 < w4.heap.size := by omega))
      (try (have z4_3_0 : w3.heap.size < w4.heap.size := by omega))
      (try (have z4_3_1 : w3.heap.size + 1 < w4.heap.size := by omega))
      go_wp2_with fail
      go_ret
      exact ⟨rfl, (by repeat' (first | with_reducible exact Below.refl _ _ | with_reducible refine Below.alloc ?_ (by first | omega | (simp; done) | (simp; omega)) _ | with_reducible refine Below.drew ?_ | with_reducible refine below_drewN ?_ _ | with_reducible refine Below.setCell ?_ (by first | omega | (simp; done) | (simp; omega)) _ | with_reducible refine Below.grown ?_ (by assumption) (by first | omega | (simp; done) | (simp; omega)) (by intro k hk; cases hk; omega) | with_reducible refine Below.trans ?_ (Below.mono (by assumption) (by first | omega | (simp; done) | (simp; omega)))))⟩
    · rw [hval] at C1 C2
      have HV := mkhid hval
      clear hval
      go_wp2_with fail
      go_at_call 29
      refine (C1 _ (by repeat' (first | with_reducible exact Below.refl _ _ | with_reducible refine Below.alloc ?_ (by first | omega | (simp; done) | (simp; omega)) _ | with_reducible refine Below.drew ?_ | with_reducible refine below_drewN ?_ _ | with_reducible refine Below.setCell ?_ (by first | omega | (simp; done) | (simp; omega)) _ | with_reducible refine Below.grown ?_ (by assumption) (by first | omega | (simp; done) | (simp; omega)) (by intro k hk; cases hk; omega) | with_reducible refine Below.trans ?_ (Below.mono (by assumption) (by first | omega | (simp; done) | (simp; omega)))))).mono ?_
      rintro e w2 ⟨rfl, hb2⟩
      obtain ⟨hc2, hf2, -, hz2⟩ := bcell hb2
      (try simp at hz2)
      (try (have y2 : w.heap.size ≤ w2.heap.size := by omega))
      (try (have z2_0_0 : w.heap.size < w2.heap.size := by omega))
      (try (have z2_0_1 : w.heap.size + 1 < w2.heap.size := by omega))
      (try (have z2_0_2 : w.heap.size + 1 + 1 < w2.heap.size := by omega))
      (try (have z2_0_3 : w.heap.size + 1 + 1 + 1 < w2.heap.size := by omega))
      (try (have z2_1_0 : w1.heap.size < w2.heap.size := by omega))
      (try (have z2_1_1 : w1.heap.size + 1 < w2.heap.size := by omega))
      go_wp2_with fail
      go_at_call 27
      refine (C2 _ (by repeat' (first | with_reducible exact Below.refl _ _ | with_reducible refine Below.alloc ?_ (by first | omega | (simp; done) | (simp; omega)) _ | with_reducible refine Below.drew ?_ | with_reducible refine below_drewN ?_ _ | with_reducible refine Below.setCell ?_ (by first | omega | (simp; done) | (simp; omega)) _ | with_reducible refine Below.grown ?_ (by assumption) (by first | omega | (simp; done) | (simp; omega)) (by intro k hk; cases hk; omega) | with_reducible refine Below.trans ?_ (Below.mono (by assumption) (by first | omega | (simp; done) | (simp; omega)))))).mono ?_
      rintro e w3 ⟨rfl, hb3⟩
      obtain ⟨hc3, hf3, -, hz3⟩ := bcell hb3
      (try simp at hz3)
      (try (have y3 : w.heap.size ≤ w3.heap.size := by omega))
      (try (have z3_0_0 : w.heap.size < w3.heap.size := by omega))
      (try (have z3_0_1 : w.heap.size + 1 < w3.heap.size := by omega))
      (try (have z3_0_2 : w.heap.size + 1 + 1 < w3.heap.size := by omega))
      (try (have z3_0_3 : w.heap.size + 1 + 1 + 1 < w3.heap.size := by omega))
      (try (have z3_1_0 : w1.heap.size < w3.heap.size := by omega))
      (try (have z3_1_1 : w1.heap.size + 1 < w3.heap.size := by omega))
      (try (have z3_2_0 : w2.heap.size < w3.heap.size := by omega))
      (try (have z3_2_1 : w2.heap.size + 1 < w3.heap.size := by omega))
      go_wp2_with fail
      have hB3 : Below w1.heap.size w1 w3 := (by repeat' (first | with_reducible exact Below.refl _ _ | with_reducible refine Below.alloc ?_ (by first | omega | (simp; done) | (simp; omega)) _ | with_reducible refine Below.drew ?_ | with_reducible refine below_drewN ?_ _ | with_reducible refine Below.setCell ?_ (by first | omega | (simp; done) | (simp; omega)) _ | with_reducible refine Below.grown ?_ (by assumption) (by first | omega | (simp; done) | (simp; omega)) (by intro k hk; cases hk; omega) | with_reducible refine Below.trans ?_ (Below.mono (by assumption) (by first | omega | (simp; done) | (simp; omega)))))
      clear C1 C2 hc2 hc3 hf2 hf3 hb1 hb2 hb3 hz1 hz2 hz3
      go_loopw [5] (fun i wr => ∃ k : Nat, k ≤ l ∧ i = .int .i64 k ∧ Below w1.heap.size w1 wr) (fun i _ => l - (intOf i).toNat)
      case atStart => exact ⟨0, Nat.zero_le _, rfl, hB3⟩
      case round =>
        obtain ⟨k, hk', rfl, hbr⟩ := hrel
        have hor := ho.below hbr
        by_cases hlt : k < l
        · have i1 : (0 : Int) ≤ (k : Int) := by omega
          have i2 : (k : Int) < (l : Int) := by omega
          have i3 : (k : Int) ≤ (l : Int) := by omega
          have hcap := hor.cap
          obtain ⟨hcap1, hcap2⟩ := hcap
          have hcm := hcap2
          unfold maxLen at hcm
          have i4 : (k : Int) ≤ (c : Int) := by omega
          have i5 : (k : Int) + 1 ≤ (l : Int) := by omega
          have i6 : (l : Int) ≤ (c : Int) := by omega
          have i7 : (k : Int) + 1 ≤ (c : Int) := by omega
          have hnl := hor.lt
          obtain ⟨f1, f2⟩ := hor.news (k := k) (by omega)
          obtain ⟨r1, r2⟩ := hor.rest (k := k + 1) (by omega)
          have hl5 := hor.len
          have F1 := fun W (hb : Below wr.heap.size wr W) j u (hu : (flatG lnK (ls.take k))[j]? = some u) => (hb.cell (p := Addr.add ⟨g, 0, none⟩ j) (by rw [Go.WideShapes.add_plain]; exact hnl)).trans (f2 j u hu)
          have F2 := fun W (hb : Below wr.heap.size wr W) j u (hu : (flatG lnK (ls.drop (k + 1)))[j]? = some u) => (hb.cell (p := Addr.add ⟨g, (k + 1) * 5, none⟩ j) (by rw [Go.WideShapes.add_plain]; exact hnl)).trans (r2 j u hu)
          have hVR : vOrd (l0 (rm ls k)) (l1 (rm ls k)) (l2 (rm ls k)) (l3 (rm ls k)) (l4 (rm ls k)) (k + (l - (k + 1))) = true := by
            have := vO_rm (i := k) (by omega) HV.out
            unfold vO at this
            rw [rm_len (by omega), hl5] at this
            rw [show k + (l - (k + 1)) = l - 1 by omega]; exact this
          have C3 := fun W b q cc (h : OL W b q (k + (l - (k + 1))) cc (rm ls k)) => impl_ValidOrder_s (ol_rsl h (by omega))
          rw [hVR] at C3
          have G1 := mkhid F1
          have G2 := mkhid F2
          clear f2 r2 hVR F1 F2
          have hzr := hbr.size
          have i9 : (0 : Int) ≤ (k : Int) + 1 := by omega
          have i10 : ((k : Int) + 1).toNat = k + 1 := by omega
          have i11 : IntKind.i64.wrap ((k : Int) + 1) = (k : Int) + 1 := IntWalk.i64_in _ (by omega)
          by_cases hca : k + 1 = c
          · have hdr : ls.drop (k + 1) = [] := List.drop_eq_nil_of_le (by omega)
            have hrm : rm ls k = ls.take k ++ [] := by unfold rm; rw [hdr]
            have hl0 : l - (k + 1) = 0 := by omega
            rw [hrm, hl0] at C3
            have i12 : (k : Int) ≤ (k : Int) + 1 := by omega
            go_wp2_with fail
            go_region_law (first
              | (refine step_append_own rfl (.tmp 31) (.tmp 34) 47 rfl wr.heap.size 91 i0 (.agg #[.int .i64 0, .int .i64 0, .bool false, .int .i64 0, .int .i64 0]) 5 40 Try.underlying47 hi iz0 iz1 iz2 rfl (by decide) _ 0 [] rfl (OG.empty (b := wr.heap.size) lnK_len (by omega) (by first | rfl | simp) (by first | rfl | simp)).row ⟨g, 0, none⟩ k _ (flatG lnK (ls.take k)) rfl f1 (G1.out _ (by repeat' (first | with_reducible exact Below.refl _ _ | with_reducible refine Below.alloc ?_ (by first | omega | (simp; done) | (simp; omega)) _ | with_reducible refine Below.drew ?_ | with_reducible refine below_drewN ?_ _ | with_reducible refine Below.setCell ?_ (by first | omega | (simp; done) | (simp; omega)) _ | with_reducible refine Below.grown ?_ (by assumption) (by first | omega | (simp; done) | (simp; omega)) (by intro k hk; cases hk; omega) | with_reducible refine Below.trans ?_ (Below.mono (by assumption) (by first | omega | (simp; done) | (simp; omega)))))) (flatG_one' lnK_one _) (by unfold maxLen; omega) (by omega) (by first | omega | (simp; done) | (simp; omega)) ?_; intro v4 w4 hown4 hgrow4 hnil4; obtain ⟨g4, c4, rfl, ho4⟩ := OG.app (OG.empty (w := wr) (B := wr.heap.size) (b := wr.heap.size) lnK_len (by omega) (Nat.le_refl _) rfl) (ys := ls.take k) (q := k) (by rw [List.length_take]; omega) rfl hown4 hnil4; rw [List.nil_append, Nat.zero_add] at ho4; have hgr4 : World.grownBy _ w4 (some wr.heap.size) := hgrow4; have hb4 : Below wr.heap.size wr w4 := Below.grown (by repeat' (first | with_reducible exact Below.refl _ _ | with_reducible refine Below.alloc ?_ (by first | omega | (simp; done) | (simp; omega)) _ | with_reducible refine Below.drew ?_ | with_reducible refine below_drewN ?_ _ | with_reducible refine Below.setCell ?_ (by first | omega | (simp; done) | (simp; omega)) _ | with_reducible refine Below.grown ?_ (by assumption) (by first | omega | (simp; done) | (simp; omega)) (by intro k hk; cases hk; omega) | with_reducible refine Below.trans ?_ (Below.mono (by assumption) (by first | omega | (simp; done) | (simp; omega))))) hgr4 (by first | omega | (simp; done) | (simp; omega)) (fun q hq => by cases hq; omega); have hz4 := hb4.size; clear hown4 hgrow4 hnil4 hgr4)
              | (refine step_append_own rfl (.tmp 35) (.tmp 39) 47 rfl wr.heap.size 91 i0 (.agg #[.int .i64 0, .int .i64 0, .bool false, .int .i64 0, .int .i64 0]) 5 40 Try.underlying47 hi iz0 iz1 iz2 rfl (by decide) _ k _ rfl ho4.row ⟨g, 0, none⟩ 0 _ [] rfl rfl (by intro j u hu; simp at hu) (by intro u hu; simp at hu) (by unfold maxLen; omega) (by omega) (by first | omega | (simp; done) | (simp; omega)) ?_; intro v5 w5 hown5 hgrow5 hnil5; obtain ⟨g5, c5, rfl, ho5⟩ := OG.app ho4 (ys := []) (q := 0) rfl rfl hown5 hnil5; have hgr5 : World.grownBy w4 w5 (some g4) := hgrow5; have hge4 := ho4.ge; have hb5 : Below wr.heap.size wr w5 := Below.grown hb4 hgr5 (by omega) (fun q hq => by cases hq; omega); have hz5 := hb5.size; clear hown5 hgrow5 hnil5 hgr5)
              | (go_simp; go_at_call 29; refine (C3 _ _ _ _ ho5).mono ?_; rintro e w6 ⟨rfl, hb6⟩; try dsimp only))
            go_wp2_with fail
            go_roundw
            case rel => exact ⟨k + 1, by omega, by go_num, (hbr.trans (hb5.mono hbr.size)).trans (hb6.mono (by omega))⟩
            case measure => first | (simp [intOf]; done) | (simp [intOf]; omega)
          · have hca' : ¬ (c = k + 1) := fun e => hca e.symm
            go_wp2_with fail
            go_region_law (first
              | (refine step_append_own rfl (.tmp 31) (.tmp 34) 47 rfl wr.heap.size 91 i0 (.agg #[.int .i64 0, .int .i64 0, .bool false, .int .i64 0, .int .i64 0]) 5 40 Try.underlying47 hi iz0 iz1 iz2 rfl (by decide) _ 0 [] rfl (OG.empty (b := wr.heap.size) lnK_len (by omega) (by first | rfl | simp) (by first | rfl | simp)).row ⟨g, 0, none⟩ k _ (flatG lnK (ls.take k)) rfl f1 (G1.out _ (by repeat' (first | with_reducible exact Below.refl _ _ | with_reducible refine Below.alloc ?_ (by first | omega | (simp; done) | (simp; omega)) _ | with_reducible refine Below.drew ?_ | with_reducible refine below_drewN ?_ _ | with_reducible refine Below.setCell ?_ (by first | omega | (simp; done) | (simp; omega)) _ | with_reducible refine Below.grown ?_ (by assumption) (by first | omega | (simp; done) | (simp; omega)) (by intro k hk; cases hk; omega) | with_reducible refine Below.trans ?_ (Below.mono (by assumption) (by first | omega | (simp; done) | (simp; omega)))))) (flatG_one' lnK_one _) (by unfold maxLen; omega) (by omega) (by first | omega | (simp; done) | (simp; omega)) ?_; intro v4 w4 hown4 hgrow4 hnil4; obtain ⟨g4, c4, rfl, ho4⟩ := OG.app (OG.empty (w := wr) (B := wr.heap.size) (b := wr.heap.size) lnK_len (by omega) (Nat.le_refl _) rfl) (ys := ls.take k) (q := k) (by rw [List.length_take]; omega) rfl hown4 hnil4; rw [List.nil_append, Nat.zero_add] at ho4; have hgr4 : World.grownBy _ w4 (some wr.heap.size) := hgrow4; have hb4 : Below wr.heap.size wr w4 := Below.grown (by repeat' (first | with_reducible exact Below.refl _ _ | with_reducible refine Below.alloc ?_ (by first | omega | (simp; done) | (simp; omega)) _ | with_reducible refine Below.drew ?_ | with_reducible refine below_drewN ?_ _ | with_reducible refine Below.setCell ?_ (by first | omega | (simp; done) | (simp; omega)) _ | with_reducible refine Below.grown ?_ (by assumption) (by first | omega | (simp; done) | (simp; omega)) (by intro k hk; cases hk; omega) | with_reducible refine Below.trans ?_ (Below.mono (by assumption) (by first | omega | (simp; done) | (simp; omega))))) hgr4 (by first | omega | (simp; done) | (simp; omega)) (fun q hq => by cases hq; omega); have hz4 := hb4.size; clear hown4 hgrow4 hnil4 hgr4)
              | (refine step_append_own rfl (.tmp 35) (.tmp 39) 47 rfl wr.heap.size 91 i0 (.agg #[.int .i64 0, .int .i64 0, .bool false, .int .i64 0, .int .i64 0]) 5 40 Try.underlying47 hi iz0 iz1 iz2 rfl (by decide) _ k _ rfl ho4.row ⟨g, (k + 1) * 5, none⟩ (l - (k + 1)) _ (flatG lnK (ls.drop (k + 1))) rfl r1 (G2.out _ hb4) (flatG_one' lnK_one _) (by unfold maxLen; omega) (by omega) (by first | omega | (simp; done) | (simp; omega)) ?_; intro v5 w5 hown5 hgrow5 hnil5; obtain ⟨g5, c5, rfl, ho5⟩ := OG.app ho4 (ys := ls.drop (k + 1)) (q := l - (k + 1)) (by rw [List.length_drop]; omega) rfl hown5 hnil5; have hgr5 : World.grownBy w4 w5 (some g4) := hgrow5; have hge4 := ho4.ge; have hb5 : Below wr.heap.size wr w5 := Below.grown hb4 hgr5 (by omega) (fun q hq => by cases hq; omega); have hz5 := hb5.size; clear hown5 hgrow5 hnil5 hgr5)
              | (go_simp; go_at_call 29; refine (C3 _ _ _ _ ho5).mono ?_; rintro e w6 ⟨rfl, hb6⟩; try dsimp only))
            go_wp2_with fail
            go_roundw
            case rel => exact ⟨k + 1, by omega, by go_num, (hbr.trans (hb5.mono hbr.size)).trans (hb6.mono (by omega))⟩
            case measure => first | (simp [intOf]; done) | (simp [intOf]; omega)
        · have hk2 : k = l := by omega
          go_wp2_with fail
          go_ret
          exact ⟨rfl, hB1.trans (hbr.mono hB1.size)⟩
end Go.Proofs.Ytjanjaabcinkiaa
