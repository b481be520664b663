/- The laws' helpers equalInts, isIn; no statement is proved here. -/
import Derived.Test.YtddpjgcodnfbjaaInts
namespace Go.Proofs.Ytddpjgcodnfbjaa
open Go.ChangeShapes Go.WideShapes Go.ChangeAt Go.RowKit
set_option linter.unusedVariables false
set_option linter.unusedSimpArgs false

theorem equalInts_c (va vb : Value) (xs ys : List Int) (w : World) (ha : ISl w va xs) (hb : ISl w vb ys) (hla : xs.length ≤ 1048576) (hlb : ys.length ≤ 1048576) : Calls Try.prog 17 #[va, vb] w (Rd (.bool (decide (xs = ys))) w) := by
  obtain ⟨p, cap, rfl, hp⟩ := ha
  obtain ⟨q, cap', rfl, hq⟩ := hb
  obtain ⟨n, hn⟩ : ∃ n, xs.length = n := ⟨_, rfl⟩
  obtain ⟨m, hm⟩ : ∃ m, ys.length = m := ⟨_, rfl⟩
  rw [hn] at hp hla ⊢
  rw [hm] at hq hlb ⊢
  have HN : Hid (xs.length = n) := hn
  have HM : Hid (ys.length = m) := hm
  clear hn hm
  by_cases he : n = m
  · subst he
    by_cases h0 : 0 < n
    · obtain ⟨b, off, rfl, hb, hc⟩ := hp h0
      obtain ⟨b', off', rfl, hb', hc'⟩ := hq h0
      clear hp hq
      go_enter Try.func17, Try.ntmps17
      go_wp2_with fail
      go_loopw [5] (fun i wr => ∃ k : Nat, k ≤ n ∧ i = .int .i64 k ∧ Hid (∀ j, j < k → el xs j = el ys j) ∧ Drew w wr) (fun i _ => n - (intOf i).toNat)
      case atStart => exact ⟨0, Nat.zero_le _, rfl, fun j hj => by omega, Drew.refl _⟩
      case round =>
        obtain ⟨k, hk, rfl, HB, hd⟩ := hrel
        by_cases hlt : k < n
        · have hcell : wr.cell? ⟨b, off + k, none⟩ = some (.int .i64 (el xs k)) := hd.ints hc k (by rw [HN.out]; exact hlt)
          have hcell' : wr.cell? ⟨b', off' + k, none⟩ = some (.int .i64 (el ys k)) := hd.ints hc' k (by rw [HM.out]; exact hlt)
          have i1 : (0 : Int) ≤ (k : Int) := by omega
          have i2 : (k : Int) < (n : Int) := by omega
          go_wp2_with fail
          go_quiet (fail)
          by_cases hx : el xs k = el ys k
          · have hx' : (el xs k != el ys k) = false := by simpa using hx
            go_wp2
            go_roundw
            case rel => exact ⟨k + 1, by omega, by go_num, fun j hj => (by by_cases e : j = k; exact e ▸ hx; exact HB.out j (by omega)), (by repeat (first | exact Drew.refl _ | assumption | refine Drew.drewN ?_ _ | refine Drew.drew ?_))⟩
            case measure => simp [intOf]; omega
          · have hx' : (el xs k != el ys k) = true := by simpa using hx
            have HE : Hid (decide (xs = ys) = false) := by
              show _ = _
              rw [decide_eq_false]
              rintro rfl
              exact hx rfl
            go_wp2
            go_ret
            exact ⟨ret_bool HE.out.symm, (by repeat (first | exact Drew.refl _ | assumption | refine Drew.drewN ?_ _ | refine Drew.drew ?_))⟩
        · go_wp2
          go_ret
          exact ⟨ret_bool (decide_eq_true (ext_el (HN.out.trans HM.out.symm) (fun i hi => HB.out i (by have := HN.out; omega)))).symm, (by repeat (first | exact Drew.refl _ | assumption | refine Drew.drewN ?_ _ | refine Drew.drew ?_))⟩
    · have hx : xs = [] := List.eq_nil_of_length_eq_zero (by rw [HN.out]; omega)
      have hy : ys = [] := List.eq_nil_of_length_eq_zero (by rw [HM.out]; omega)
      obtain rfl : n = 0 := by omega
      go_enter Try.func17, Try.ntmps17
      go_wp2_with fail
      go_loop [5] (fun i => i = .int .i64 0) (fun i => 0)
      case atStart => rfl
      case round =>
        obtain rfl := hrel
        go_wp2
        go_ret
        exact ⟨ret_bool (by first | rfl | (rw [hx, hy]; rfl)), (by repeat (first | exact Drew.refl _ | assumption | refine Drew.drewN ?_ _ | refine Drew.drew ?_))⟩
  · have HE : Hid (decide (xs = ys) = false) := by
      show _ = _
      rw [decide_eq_false]
      rintro rfl
      exact he (HN.out.symm.trans HM.out)
    go_enter Try.func17, Try.ntmps17
    have i1 : ((n : Int) != (m : Int)) = true := by simp; omega
    go_wp2_with fail
    go_ret
    exact ⟨ret_bool HE.out.symm, (by repeat (first | exact Drew.refl _ | assumption | refine Drew.drewN ?_ _ | refine Drew.drew ?_))⟩

theorem isIn_s {b off n cap : Nat} {zs : List Int} {x : Int} {w : World} (h : Sl w b off n cap zs) : Calls Try.prog 19 #[.slice (some ⟨b, off, none⟩) n cap, (.int .i64 x)] w (Rs (.bool (decide (x ∈ zs))) w) := by
  have hs := h.small
  have HN := mkhid h.len
  go_enter Try.func19, Try.ntmps19
  go_wp2_with fail
  go_loop [5] (fun i => ∃ k : Nat, k ≤ n ∧ i = .int .i64 k ∧ Hid (∀ j, j < k → el zs j ≠ x)) (fun i => n - (intOf i).toNat)
  case atStart => exact ⟨0, Nat.zero_le _, rfl, fun j hj => by omega⟩
  case round =>
    obtain ⟨k, hk, rfl, HB⟩ := hrel
    by_cases hlt : k < n
    · have hcell := h.cell hlt
      by_cases hx : el zs k = x
      · have e1 : (el zs k == x) = true := by simpa using hx
        have hv : Hid (decide (x ∈ zs) = true) := decide_eq_true (hx ▸ el_mem (by rw [HN.out]; exact hlt))
        clear hx
        go_wp2
        go_ret
        exact ⟨ret_bool hv.out.symm, rfl⟩
      · have e1 : (el zs k == x) = false := by simpa using hx
        have HB2 : Hid (∀ j, j < k + 1 → el zs j ≠ x) := fun j hj => by
          by_cases e : j = k
          · exact e ▸ hx
          · exact HB.out j (by omega)
        clear hx
        go_wp2
        go_round
        case rel => exact ⟨k + 1, by omega, by go_num, HB2⟩
        case measure => simp [intOf]; omega
    · have hv : Hid (decide (x ∈ zs) = false) := decide_eq_false (fun hm => by
        obtain ⟨j, hj, e⟩ := mem_el hm
        exact HB.out j (by rw [HN.out] at hj; omega) e)
      go_wp2
      go_ret
      exact ⟨ret_bool hv.out.symm, rfl⟩
theorem equalInts_same (va vb : Value) (xs : List Int) (w : World) (ha : ISl w va xs) (hb : ISl w vb xs) (hl : xs.length ≤ 1048576) : Calls Try.prog 17 #[va, vb] w (Rt (.bool true) w) := by
  have := rd_rt (equalInts_c va vb xs xs w ha hb hl hl)
  rwa [decide_eq_true (rfl : xs = xs)] at this
theorem own_form {w : World} {B m : Nat} {E : TypeId} {v : Value} {zs : List Int} (ho : Own w B E v zs) (hl : zs.length = m) (h0 : 0 < m) : ∃ g c, v = .slice (some ⟨g, 0, none⟩) m c := by
  rcases ho.forms with ⟨_, e⟩ | ⟨g, c, e, _⟩
  · rw [e] at hl; simp at hl; omega
  · exact ⟨g, c, by rw [e, hl]⟩
theorem own_copy {w : World} {B n : Nat} {E : TypeId} {v : Value} {zs : List Int} (hl : zs.length = n) (h : w.ownsRow B E 1 v (0 + n) ([] ++ zs.map (Value.int .i64))) : Own w B E v zs := by
  unfold Own; rw [hl]; rw [Nat.zero_add, List.nil_append] at h; exact h
theorem below_copy {w w1 : World} {b : Nat} {o : Obj} (hb : b = w.heap.size) (h : (w.alloc o).grownBy w1 (some b)) : Below w.heap.size w w1 :=
  ((Below.refl w.heap.size w).alloc (Nat.le_refl _) o).grown h (by simp) (fun k hk => by cases hk; omega)
theorem Sl.cell0 {W : World} {b n cap : Nat} {zs : List Int} (h : Sl W b 0 n cap zs) {k : Nat} (hk : k < n) : W.cell? ⟨b, k, none⟩ = some (.int .i64 (el zs k)) := by
  have := h.cell hk
  rwa [Nat.zero_add] at this
end Go.Proofs.Ytddpjgcodnfbjaa
