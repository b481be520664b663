/- The walk of the law FnLeftOverPoints; no statement is proved here. -/
import Derived.Test.YtimfabpigpcjhaaLefI
import Derived.Test.YtimfabpigpcjhaaDraw
namespace Go.Proofs.Ytimfabpigpcjhaa
open Go.ChangeShapes Go.WideShapes Go.ChangeAt Go.RowKit
set_option linter.unusedVariables false
set_option linter.unusedSimpArgs false

theorem leftR_bd {a b q : Bx} (h : q ∈ leftR a b) : 0 ≤ q.x ∧ q.x ≤ 400 ∧ 0 ≤ q.y ∧ q.y ≤ 400 ∧ 0 ≤ q.w ∧ q.w ≤ 400 ∧ 0 ≤ q.h ∧ q.h ≤ 400 := by
  by_cases hok : okB a = true ∧ okB b = true
  · obtain ⟨ha, hb⟩ := hok
    obtain ⟨a1, a2, a3, a4, a5, a6, a7, a8⟩ := vBox_bd ha
    obtain ⟨b1, b2, b3, b4, b5, b6, b7, b8⟩ := vBox_bd hb
    cases hm : mtX a b
    · rw [leftR_a ha hb hm] at h
      simp at h
      subst h
      omega
    · rw [leftR_p ha hb hm] at h
      unfold mtX meets at hm
      obtain ⟨m1, m2⟩ := of_decide_eq_true hm
      have e1 : (mt a b).x = max a.x b.x := mX_eq _ _
      have e2 : (mt a b).y = max a.y b.y := mX_eq _ _
      have e3 : (mt a b).w = min (a.x + a.w) (b.x + b.w) - max a.x b.x := mW_eq _ _ _ _
      have e4 : (mt a b).h = min (a.y + a.h) (b.y + b.h) - max a.y b.y := mW_eq _ _ _ _
      rw [mW_eq] at m1 m2
      generalize mt a b = m at *
      unfold leftP at h
      simp only [List.mem_append] at h
      rcases h with ((h | h) | h) | h <;> (split at h <;> first | (simp at h; done) | (simp only [List.mem_singleton] at h; subst h; simp only [q1, q2, q3, q4]; omega))
  · rw [leftR_no hok] at h
    simp at h
theorem leftR_len (a b : Bx) : (leftR a b).length ≤ 4 := by
  unfold leftR leftP
  split
  · split
    · simp only [List.length_append]
      split <;> split <;> split <;> split <;> simp
    · simp
  · simp
theorem bx_mem {bs : List Bx} {k : Nat} (h : k < bs.length) : bx bs k ∈ bs := by
  have : bx bs k = bs[k] := by simp [bx, List.getD, h]
  rw [this]; exact List.getElem_mem h
theorem cntP_take {bs : List Bx} {k : Nat} (x y : Int) (h : k < bs.length) : cntP x y (bs.take (k + 1)) = cntP x y (bs.take k) + (if pt (bx bs k) x y = true then 1 else 0) := by
  have e : bx bs k = bs[k] := by simp [bx, List.getD, h]
  rw [List.take_succ_eq_append_getElem h, cntP_append, ← e]
  simp [cntP]
theorem cntP_le (x y : Int) (bs : List Bx) : cntP x y bs ≤ bs.length := by
  induction bs with
  | nil => simp [cntP]
  | cons b bs ih => simp only [cntP, List.length_cons]; split <;> omega
theorem points_c (q : Bx) (x y : Int) (w : World) (h : 0 ≤ q.x ∧ q.x ≤ 400 ∧ 0 ≤ q.y ∧ q.y ≤ 400 ∧ 0 ≤ q.w ∧ q.w ≤ 400 ∧ 0 ≤ q.h ∧ q.h ≤ 400) : Calls Try.prog 23 #[(.agg #[.int .i64 q.x, .int .i64 q.y, .int .i64 q.w, .int .i64 q.h]), (.int .i64 x), (.int .i64 y)] w (Rt (.bool (pt q x y)) w) := by
  obtain ⟨qx, qy, qw, qh⟩ := q
  obtain ⟨h1, h2, h3, h4, h5, h6, h7, h8⟩ := h
  dsimp only at h1 h2 h3 h4 h5 h6 h7 h8 ⊢
  have s1 : IntKind.i64.wrap (qx + qw) = qx + qw := IntWalk.i64_in _ (by omega)
  have s2 : IntKind.i64.wrap (qy + qh) = qy + qh := IntWalk.i64_in _ (by omega)
  have HP : Hid (pt ⟨qx, qy, qw, qh⟩ x y = decide (qx ≤ x ∧ x < qx + qw ∧ qy ≤ y ∧ y < qy + qh)) := rfl
  go_enter Try.func23, Try.ntmps23
  go_wp2_with fail
  all_goals go_ret
  all_goals (refine ⟨ret_bool ?_, (by repeat' (first | with_reducible exact Below.refl _ _ | with_reducible refine Below.alloc ?_ (by first | omega | (simp; done) | (simp; omega)) _ | with_reducible refine Below.drew ?_ | with_reducible refine below_drewN ?_ _ | with_reducible refine Below.setCell ?_ (by first | omega | (simp; done) | (simp; omega)) _ | with_reducible refine Below.grown ?_ (by assumption) (by first | omega | (simp; done) | (simp; omega)) (by intro k hk; cases hk; omega) | with_reducible refine Below.trans ?_ (Below.mono (by assumption) (by first | omega | (simp; done) | (simp; omega)))))⟩; rw [HP.out])
  all_goals (rw [Bool.eq_iff_iff]; simp only [decide_eq_true_eq, true_iff, iff_true, Bool.false_eq_true, false_iff, iff_false, Bool.and_eq_true, Bool.or_eq_true]; omega)
set_option maxRecDepth 20000 in
set_option maxHeartbeats 3000000 in
theorem FnLeftOverPoints_walk (v : Value) (w : World) (hv : BSl w v) : Calls Try.prog 5 #[v] w (Rt (.bool true) w) := by
  have hv' := hv
  obtain ⟨p, n, cap, rfl, _⟩ := hv'
  by_cases hn : 1048576 < n
  · have d1 : decide (1048576 < (n : Int)) = true := decide_eq_true (by omega)
    go_enter Try.func5, Try.ntmps5
    go_wp2
    go_ret
    exact ⟨rfl, Below.refl _ _⟩
  · have d1 : decide (1048576 < (n : Int)) = false := decide_eq_false (by omega)
    go_enter Try.func5, Try.ntmps5
    go_wp2_with fail
    go_at_call 18
    refine (DrawLeftOver_c hv).mono ?_
    rintro e w1 ⟨ax, ay, aw, ah, ux, uy, uw, uh, rfl, hb1⟩
    obtain ⟨hc1, hf1, -, hz1⟩ := bcell hb1
    (try simp at hz1)
    (try (have y1 : w.heap.size ≤ w1.heap.size := by omega))
    (try (have z1_0_0 : w.heap.size < w1.heap.size := by omega))
    (try (have z1_0_1 : w.heap.size + 1 < w1.heap.size := by omega))
    (try (have z1_0_2 : w.heap.size + 1 + 1 < w1.heap.size := by omega))
    (try (have z1_0_3 : w.heap.size + 1 + 1 + 1 < w1.heap.size := by omega))
    go_wp2_with fail
    obtain ⟨L, hL⟩ : ∃ L, L = leftR ⟨ax, ay, aw, ah⟩ ⟨ux, uy, uw, uh⟩ := ⟨_, rfl⟩
    have hLl : L.length ≤ 4 := by rw [hL]; exact leftR_len _ _
    have hLb : ∀ k, k < L.length → 0 ≤ (bx L k).x ∧ (bx L k).x ≤ 400 ∧ 0 ≤ (bx L k).y ∧ (bx L k).y ≤ 400 ∧ 0 ≤ (bx L k).w ∧ (bx L k).w ≤ 400 ∧ 0 ≤ (bx L k).h ∧ (bx L k).h ≤ 400 := fun k hk => leftR_bd (a := ⟨ax, ay, aw, ah⟩) (b := ⟨ux, uy, uw, uh⟩) (by rw [← hL]; exact bx_mem hk)
    have C1 := fun W => impl_LeftOver_c ax ay aw ah ux uy uw uh W
    have C2 := fun W => spec_LeftOver_c ax ay aw ah ux uy uw uh W
    rw [← hL] at C1 C2
    have HL := mkhid hL
    have HLb := mkhid hLb
    clear hL hLb
    by_cases hok : vBox ax ay aw ah = true ∧ vBox ux uy uw uh = true
    · obtain ⟨ha, hb⟩ := hok
      have hcnt : Hid (∀ x y, ax ≤ x → x < ax + aw → ay ≤ y → y < ay + ah → cntP x y L = if pt ⟨ux, uy, uw, uh⟩ x y = true then 0 else 1) := fun x y h1 h2 h3 h4 => by rw [HL.out]; exact left_points (a := ⟨ax, ay, aw, ah⟩) (b := ⟨ux, uy, uw, uh⟩) ha hb h1 h2 h3 h4
      go_at_call 19
      refine (C1 _).mono ?_
      rintro e w2 ⟨va, rfl, ho2, hb2⟩
      obtain ⟨hc2, hf2, -, hz2⟩ := bcell hb2
      (try simp at hz2)
      (try (have y2 : w.heap.size ≤ w2.heap.size := by omega))
      (try (have z2_0_0 : w.heap.size < w2.heap.size := by omega))
      (try (have z2_0_1 : w.heap.size + 1 < w2.heap.size := by omega))
      (try (have z2_0_2 : w.heap.size + 1 + 1 < w2.heap.size := by omega))
      (try (have z2_0_3 : w.heap.size + 1 + 1 + 1 < w2.heap.size := by omega))
      (try (have z2_1_0 : w1.heap.size < w2.heap.size := by omega))
      (try (have z2_1_1 : w1.heap.size + 1 < w2.heap.size := by omega))
      go_wp2_with fail
      go_at_call 21
      refine (C2 _).mono ?_
      rintro e w3 ⟨vb, rfl, ho3, hb3⟩
      obtain ⟨hc3, hf3, -, hz3⟩ := bcell hb3
      (try simp at hz3)
      (try (have y3 : w.heap.size ≤ w3.heap.size := by omega))
      (try (have z3_0_0 : w.heap.size < w3.heap.size := by omega))
      (try (have z3_0_1 : w.heap.size + 1 < w3.heap.size := by omega))
      (try (have z3_0_2 : w.heap.size + 1 + 1 < w3.heap.size := by omega))
      (try (have z3_0_3 : w.heap.size + 1 + 1 + 1 < w3.heap.size := by omega))
      (try (have z3_1_0 : w1.heap.size < w3.heap.size := by omega))
      (try (have z3_1_1 : w1.heap.size + 1 < w3.heap.size := by omega))
      (try (have z3_2_0 : w2.heap.size < w3.heap.size := by omega))
      (try (have z3_2_1 : w2.heap.size + 1 < w3.heap.size := by omega))
      go_wp2_with fail
      go_at_call 20
      refine (rd_rt (equalBoxes_same (ho2.below hb3) ho3 (by omega))).mono ?_
      rintro e w4 ⟨rfl, hb4⟩
      obtain ⟨hc4, hf4, -, hz4⟩ := bcell hb4
      (try simp at hz4)
      (try (have y4 : w.heap.size ≤ w4.heap.size := by omega))
      (try (have z4_0_0 : w.heap.size < w4.heap.size := by omega))
      (try (have z4_0_1 : w.heap.size + 1 < w4.heap.size := by omega))
      (try (have z4_0_2 : w.heap.size + 1 + 1 < w4.heap.size := by omega))
      (try (have z4_0_3 : w.heap.size + 1 + 1 + 1 < w4.heap.size := by omega))
      (try (have z4_1_0 : w1.heap.size < w4.heap.size := by omega))
      (try (have z4_1_1 : w1.heap.size + 1 < w4.heap.size := by omega))
      (try (have z4_2_0 : w2.heap.size < w4.heap.size := by omega))
      (try (have z4_2_1 : w2.heap.size + 1 < w4.heap.size := by omega))
      (try (have z4_3_0 : w3.heap.size < w4.heap.size := by omega))
      (try (have z4_3_1 : w3.heap.size + 1 < w4.heap.size := by omega))
      go_wp2_with fail
      go_at_call 22
      refine (impl_ValidBox_c _ _ _ _ _).mono ?_
      rintro e w5 ⟨rfl, hb5⟩
      obtain ⟨hc5, hf5, -, hz5⟩ := bcell hb5
      (try simp at hz5)
      (try (have y5 : w.heap.size ≤ w5.heap.size := by omega))
      (try (have z5_0_0 : w.heap.size < w5.heap.size := by omega))
      (try (have z5_0_1 : w.heap.size + 1 < w5.heap.size := by omega))
      (try (have z5_0_2 : w.heap.size + 1 + 1 < w5.heap.size := by omega))
      (try (have z5_0_3 : w.heap.size + 1 + 1 + 1 < w5.heap.size := by omega))
      (try (have z5_1_0 : w1.heap.size < w5.heap.size := by omega))
      (try (have z5_1_1 : w1.heap.size + 1 < w5.heap.size := by omega))
      (try (have z5_2_0 : w2.heap.size < w5.heap.size := by omega))
      (try (have z5_2_1 : w2.heap.size + 1 < w5.heap.size := by omega))
      (try (have z5_3_0 : w3.heap.size < w5.heap.size := by omega))
      (try (have z5_3_1 : w3.heap.size + 1 < w5.heap.size := by omega))
      (try (have z5_4_0 : w4.heap.size < w5.heap.size := by omega))
      (try (have z5_4_1 : w4.heap.size + 1 < w5.heap.size := by omega))
      go_wp2_with fail
      go_at_call 22
      refine (impl_ValidBox_c _ _ _ _ _).mono ?_
      rintro e w6 ⟨rfl, hb6⟩
      obtain ⟨hc6, hf6, -, hz6⟩ := bcell hb6
      (try simp at hz6)
      (try (have y6 : w.heap.size ≤ w6.heap.size := by omega))
      (try (have z6_0_0 : w.heap.size < w6.heap.size := by omega))
      (try (have z6_0_1 : w.heap.size + 1 < w6.heap.size := by omega))
      (try (have z6_0_2 : w.heap.size + 1 + 1 < w6.heap.size := by omega))
      (try (have z6_0_3 : w.heap.size + 1 + 1 + 1 < w6.heap.size := by omega))
      (try (have z6_1_0 : w1.heap.size < w6.heap.size := by omega))
      (try (have z6_1_1 : w1.heap.size + 1 < w6.heap.size := by omega))
      (try (have z6_2_0 : w2.heap.size < w6.heap.size := by omega))
      (try (have z6_2_1 : w2.heap.size + 1 < w6.heap.size := by omega))
      (try (have z6_3_0 : w3.heap.size < w6.heap.size := by omega))
      (try (have z6_3_1 : w3.heap.size + 1 < w6.heap.size := by omega))
      (try (have z6_4_0 : w4.heap.size < w6.heap.size := by omega))
      (try (have z6_4_1 : w4.heap.size + 1 < w6.heap.size := by omega))
      (try (have z6_5_0 : w5.heap.size < w6.heap.size := by omega))
      (try (have z6_5_1 : w5.heap.size + 1 < w6.heap.size := by omega))
      go_wp2_with fail
      have p0 : w6.cell? ⟨w1.heap.size, 0, none⟩ = some (.int .i64 ax) := by go_simp
      have p1 : w6.cell? ⟨w1.heap.size, 1, none⟩ = some (.int .i64 ay) := by go_simp
      have p2 : w6.cell? ⟨w1.heap.size, 2, none⟩ = some (.int .i64 aw) := by go_simp
      have p3 : w6.cell? ⟨w1.heap.size, 3, none⟩ = some (.int .i64 ah) := by go_simp
      have o0 : w6.cell? ⟨w1.heap.size + 1, 0, none⟩ = some (.int .i64 ux) := by go_simp
      have o1 : w6.cell? ⟨w1.heap.size + 1, 1, none⟩ = some (.int .i64 uy) := by go_simp
      have o2 : w6.cell? ⟨w1.heap.size + 1, 2, none⟩ = some (.int .i64 uw) := by go_simp
      have o3 : w6.cell? ⟨w1.heap.size + 1, 3, none⟩ = some (.int .i64 uh) := by go_simp
      have hB6 : Below w.heap.size w w6 := (by repeat' (first | with_reducible exact Below.refl _ _ | with_reducible refine Below.alloc ?_ (by first | omega | (simp; done) | (simp; omega)) _ | with_reducible refine Below.drew ?_ | with_reducible refine below_drewN ?_ _ | with_reducible refine Below.setCell ?_ (by first | omega | (simp; done) | (simp; omega)) _ | with_reducible refine Below.grown ?_ (by assumption) (by first | omega | (simp; done) | (simp; omega)) (by intro k hk; cases hk; omega) | with_reducible refine Below.trans ?_ (Below.mono (by assumption) (by first | omega | (simp; done) | (simp; omega)))))
      have hH : w1.heap.size + 1 < w6.heap.size := by omega
      have hO := (((ho2.below hb3).below hb4).below hb5).below hb6
      obtain ⟨pp, cc, rfl, hr⟩ := hO.slice (by omega)
      obtain ⟨N, hN⟩ : ∃ N, L.length = N := ⟨_, rfl⟩
      simp only [hN] at hr hLl ⊢
      obtain ⟨a1, a2, a3, a4, a5, a6, a7, a8⟩ := vBox_bd ha
      obtain ⟨b1, b2, b3, b4, b5, b6, b7, b8⟩ := vBox_bd hb
      have hNh := mkhid hN
      have CB := fun x y W => points_c ⟨ux, uy, uw, uh⟩ x y W (by dsimp only; omega)
      have CP := fun k x y W (hk : k < N) => points_c (bx L k) x y W (HLb.out k (by rw [hNh.out]; exact hk))
      have HR := mkhid hr
      clear hr
      clear hN ho2 ho3 hO hc1 hf1 hc2 hf2 hc3 hf3 hc4 hf4 hc5 hf5 hc6 hf6 hb1 hb2 hb3 hb4 hb5 hb6 hz1 hz2 hz3 hz4 hz5 hz6 C1 C2 ha hb
      obtain ⟨sh, hsh, h12, h13⟩ : ∃ s, Int.tdiv ah 12 = s ∧ 0 ≤ s ∧ s ≤ 200 := ⟨_, rfl, by rw [Int.tdiv_eq_ediv_of_nonneg (by omega)]; omega⟩
      obtain ⟨sw, hsw, h14, h15⟩ : ∃ s, Int.tdiv aw 12 = s ∧ 0 ≤ s ∧ s ≤ 200 := ⟨_, rfl, by rw [Int.tdiv_eq_ediv_of_nonneg (by omega)]; omega⟩
      have t1 : IntKind.i64.wrap sh = sh := IntWalk.i64_in _ (by omega)
      have t2 : IntKind.i64.wrap sw = sw := IntWalk.i64_in _ (by omega)
      have t3 : IntKind.i64.wrap (ay + ah) = ay + ah := IntWalk.i64_in _ (by omega)
      have t4 : IntKind.i64.wrap (ax + aw) = ax + aw := IntWalk.i64_in _ (by omega)
      go_loopw [6] (fun i wr => ∃ y : Int, ay ≤ y ∧ y ≤ 401 ∧ i = .int .i64 y ∧ Below w6.heap.size w6 wr) (fun i _ => (ay + ah - intOf i).toNat)
      case atStart => exact ⟨ay, by omega, by omega, rfl, Below.refl _ _⟩
      case round =>
        obtain ⟨y, hy1, hy2, rfl, hbr⟩ := hrel
        obtain ⟨hc, hf, -, hz⟩ := bcell hbr
        have p0' : wr.cell? ⟨w1.heap.size, 0, none⟩ = some (.int .i64 ax) := (hc _ _ (by omega)).trans p0
        have p1' : wr.cell? ⟨w1.heap.size, 1, none⟩ = some (.int .i64 ay) := (hc _ _ (by omega)).trans p1
        have p3' : wr.cell? ⟨w1.heap.size, 3, none⟩ = some (.int .i64 ah) := (hc _ _ (by omega)).trans p3
        clear hc hf
        by_cases hy : y < ay + ah
        · have e1 : decide (y < ay + ah) = true := decide_eq_true hy
          go_wp2_with fail
          go_loopw [7] (fun i wr => ∃ x : Int, ax ≤ x ∧ x ≤ 401 ∧ i = .int .i64 x ∧ Below w6.heap.size w6 wr) (fun i _ => (ax + aw - intOf i).toNat)
          case atStart => exact ⟨ax, by omega, by omega, rfl, hbr⟩
          case round =>
            obtain ⟨x, hx1, hx2, rfl, hbx⟩ := hrel
            clear hbr p0' p1' p3' hz
            obtain ⟨hc, hf, -, hz⟩ := bcell hbx
            have p0' : wr.cell? ⟨w1.heap.size, 0, none⟩ = some (.int .i64 ax) := (hc _ _ (by omega)).trans p0
            have p2' : wr.cell? ⟨w1.heap.size, 2, none⟩ = some (.int .i64 aw) := (hc _ _ (by omega)).trans p2
            have p1' : wr.cell? ⟨w1.heap.size, 1, none⟩ = some (.int .i64 ay) := (hc _ _ (by omega)).trans p1
            have p3' : wr.cell? ⟨w1.heap.size, 3, none⟩ = some (.int .i64 ah) := (hc _ _ (by omega)).trans p3
            clear hc hf
            by_cases hx : x < ax + aw
            · have e2 : decide (x < ax + aw) = true := decide_eq_true hx
              go_wp2_with fail
              go_loopw [8, 9] (fun c i wr => ∃ k : Nat, k ≤ N ∧ i = .int .i64 k ∧ c = .int .i64 (cntP x y (L.take k)) ∧ Below w6.heap.size w6 wr) (fun _ i _ => N - (intOf i).toNat)
              case atStart => exact ⟨0, Nat.zero_le _, rfl, by simp [cntP], hbx⟩
              case round =>
                obtain ⟨k, hk, rfl, rfl, hbk⟩ := hrel
                clear hbx p0' p1' p2' p3' hz
                obtain ⟨hc, hf, -, hz⟩ := bcell hbk
                by_cases hlt : k < N
                · have i1 : (0 : Int) ≤ (k : Int) := by omega
                  have i2 : (k : Int) < (N : Int) := by omega
                  have hcn := cntP_take (bs := L) x y (show k < L.length by rw [hNh.out]; exact hlt)
                  have hle := cntP_le x y (L.take k)
                  rw [List.length_take] at hle
                  obtain ⟨g, rfl, hR⟩ := HR.out k hlt
                  obtain ⟨c0, c1, c2, c3⟩ := box_cells (hR.below hbk) hlt
                  have CK := fun W => CP k x y W hlt
                  obtain ⟨C, hC⟩ : ∃ C, C = cntP x y (L.take k) := ⟨_, rfl⟩
                  rw [← hC] at hcn hle ⊢
                  obtain ⟨D, hD⟩ : ∃ D, D = cntP x y (L.take (k + 1)) := ⟨_, rfl⟩
                  rw [← hD] at hcn
                  have HD := mkhid hD
                  obtain ⟨z0, hz0⟩ : ∃ z, z = (bx L k).x := ⟨_, rfl⟩
                  obtain ⟨z1, hz1⟩ : ∃ z, z = (bx L k).y := ⟨_, rfl⟩
                  obtain ⟨z2, hz2⟩ : ∃ z, z = (bx L k).w := ⟨_, rfl⟩
                  obtain ⟨z3, hz3⟩ : ∃ z, z = (bx L k).h := ⟨_, rfl⟩
                  rw [← hz0, ← hz1, ← hz2, ← hz3] at CK
                  rw [← hz0] at c0
                  rw [← hz1] at c1
                  rw [← hz2] at c2
                  rw [← hz3] at c3
                  simp only [Nat.zero_add] at c0 c1 c2 c3
                  clear hz0 hz1 hz2 hz3 hC hD hf hc
                  have w1C : IntKind.i64.wrap ((C : Int) + 1) = (C : Int) + 1 := IntWalk.i64_in _ (by omega)
                  cases hp : pt (bx L k) x y
                  · rw [hp] at hcn CK
                    have hcn' : D = C := by simpa using hcn
                    have hcn'' := mkhid hcn'
                    clear hcn hcn' hp
                    go_wp2_with (first | (go_at_call 23; refine (CK _).mono ?_; rintro e w1 ⟨rfl, hb1⟩; obtain ⟨hc1, hf1, -, hz1⟩ := bcell hb1; (try simp at hz1); (try (have zwr0 : wr.heap.size < w1.heap.size := by omega))))
                    go_roundw
                    case rel => exact ⟨k + 1, by omega, by go_num, by rw [← HD.out, hcn''.out], hbk.trans (hb1.mono (by omega))⟩
                    case measure => first | (simp [intOf]; done) | (simp [intOf]; omega)
                  · rw [hp] at hcn CK
                    have hcn' : D = C + 1 := by simpa using hcn
                    have hcn'' := mkhid hcn'
                    clear hcn hcn' hp
                    go_wp2_with (first | (go_at_call 23; refine (CK _).mono ?_; rintro e w1 ⟨rfl, hb1⟩; obtain ⟨hc1, hf1, -, hz1⟩ := bcell hb1; (try simp at hz1); (try (have zwr0 : wr.heap.size < w1.heap.size := by omega))))
                    go_roundw
                    case rel => exact ⟨k + 1, by omega, by go_num, by rw [← HD.out, hcn''.out]; go_num, hbk.trans (hb1.mono (by omega))⟩
                    case measure => first | (simp [intOf]; done) | (simp [intOf]; omega)
                · have hkN : k = N := by omega
                  have htk : L.take k = L := by rw [hkN, ← hNh.out, List.take_length]
                  have hct := hcnt.out x y hx1 hx hy1 hy
                  rw [htk]
                  have p0' : wr.cell? ⟨w1.heap.size, 0, none⟩ = some (.int .i64 ax) := (hc _ _ (by omega)).trans p0
                  have p2' : wr.cell? ⟨w1.heap.size, 2, none⟩ = some (.int .i64 aw) := (hc _ _ (by omega)).trans p2
                  have p1' : wr.cell? ⟨w1.heap.size, 1, none⟩ = some (.int .i64 ay) := (hc _ _ (by omega)).trans p1
                  have p3' : wr.cell? ⟨w1.heap.size, 3, none⟩ = some (.int .i64 ah) := (hc _ _ (by omega)).trans p3
                  have o0' : wr.cell? ⟨w1.heap.size + 1, 0, none⟩ = some (.int .i64 ux) := (hc _ _ (by omega)).trans o0
                  have o1' : wr.cell? ⟨w1.heap.size + 1, 1, none⟩ = some (.int .i64 uy) := (hc _ _ (by omega)).trans o1
                  have o2' : wr.cell? ⟨w1.heap.size + 1, 2, none⟩ = some (.int .i64 uw) := (hc _ _ (by omega)).trans o2
                  have o3' : wr.cell? ⟨w1.heap.size + 1, 3, none⟩ = some (.int .i64 uh) := (hc _ _ (by omega)).trans o3
                  clear hc hf
                  have CK := fun W => CB x y W
                  have r1 : IntKind.i64.wrap (x + 1) = x + 1 := IntWalk.i64_in _ (by omega)
                  have r2 : IntKind.i64.wrap (x + 1 + sw) = x + 1 + sw := IntWalk.i64_in _ (by omega)
                  cases hp : pt ⟨ux, uy, uw, uh⟩ x y
                  · rw [hp] at hct CK
                    have hct' : cntP x y L = 1 := by simpa using hct
                    rw [hct']
                    clear hct hct' hp
                    go_wp2_with fail
                    go_at_call 23
                    refine (CK _).mono ?_
                    rintro e w7 ⟨rfl, hb7⟩
                    obtain ⟨hc7, hf7, -, hz7⟩ := bcell hb7
                    (try simp at hz7)
                    (try (have y7 : w.heap.size ≤ w7.heap.size := by omega))
                    (try (have z7_0_0 : w.heap.size < w7.heap.size := by omega))
                    (try (have z7_0_1 : w.heap.size + 1 < w7.heap.size := by omega))
                    (try (have z7_0_2 : w.heap.size + 1 + 1 < w7.heap.size := by omega))
                    (try (have z7_0_3 : w.heap.size + 1 + 1 + 1 < w7.heap.size := by omega))
                    (try (have z7_1_0 : w1.heap.size < w7.heap.size := by omega))
                    (try (have z7_1_1 : w1.heap.size + 1 < w7.heap.size := by omega))
                    (try (have z7_2_0 : w2.heap.size < w7.heap.size := by omega))
                    (try (have z7_2_1 : w2.heap.size + 1 < w7.heap.size := by omega))
                    (try (have z7_3_0 : w3.heap.size < w7.heap.size := by omega))
                    (try (have z7_3_1 : w3.heap.size + 1 < w7.heap.size := by omega))
                    (try (have z7_4_0 : w4.heap.size < w7.heap.size := by omega))
                    (try (have z7_4_1 : w4.heap.size + 1 < w7.heap.size := by omega))
                    (try (have z7_5_0 : w5.heap.size < w7.heap.size := by omega))
                    (try (have z7_5_1 : w5.heap.size + 1 < w7.heap.size := by omega))
                    (try (have z7_6_0 : w6.heap.size < w7.heap.size := by omega))
                    (try (have z7_6_1 : w6.heap.size + 1 < w7.heap.size := by omega))
                    have o0'' : w7.cell? ⟨w1.heap.size + 1, 0, none⟩ = some (.int .i64 ux) := (hc7 _ _ (by omega)).trans o0'
                    have o1'' : w7.cell? ⟨w1.heap.size + 1, 1, none⟩ = some (.int .i64 uy) := (hc7 _ _ (by omega)).trans o1'
                    have o2'' : w7.cell? ⟨w1.heap.size + 1, 2, none⟩ = some (.int .i64 uw) := (hc7 _ _ (by omega)).trans o2'
                    have o3'' : w7.cell? ⟨w1.heap.size + 1, 3, none⟩ = some (.int .i64 uh) := (hc7 _ _ (by omega)).trans o3'
                    go_wp2_with fail
                    go_at_call 23
                    refine (CK _).mono ?_
                    rintro e w8 ⟨rfl, hb8⟩
                    obtain ⟨hc8, hf8, -, hz8⟩ := bcell hb8
                    (try simp at hz8)
                    (try (have y8 : w.heap.size ≤ w8.heap.size := by omega))
                    (try (have z8_0_0 : w.heap.size < w8.heap.size := by omega))
                    (try (have z8_0_1 : w.heap.size + 1 < w8.heap.size := by omega))
                    (try (have z8_0_2 : w.heap.size + 1 + 1 < w8.heap.size := by omega))
                    (try (have z8_0_3 : w.heap.size + 1 + 1 + 1 < w8.heap.size := by omega))
                    (try (have z8_1_0 : w1.heap.size < w8.heap.size := by omega))
                    (try (have z8_1_1 : w1.heap.size + 1 < w8.heap.size := by omega))
                    (try (have z8_2_0 : w2.heap.size < w8.heap.size := by omega))
                    (try (have z8_2_1 : w2.heap.size + 1 < w8.heap.size := by omega))
                    (try (have z8_3_0 : w3.heap.size < w8.heap.size := by omega))
                    (try (have z8_3_1 : w3.heap.size + 1 < w8.heap.size := by omega))
                    (try (have z8_4_0 : w4.heap.size < w8.heap.size := by omega))
                    (try (have z8_4_1 : w4.heap.size + 1 < w8.heap.size := by omega))
                    (try (have z8_5_0 : w5.heap.size < w8.heap.size := by omega))
                    (try (have z8_5_1 : w5.heap.size + 1 < w8.heap.size := by omega))
                    (try (have z8_6_0 : w6.heap.size < w8.heap.size := by omega))
                    (try (have z8_6_1 : w6.heap.size + 1 < w8.heap.size := by omega))
                    (try (have z8_7_0 : w7.heap.size < w8.heap.size := by omega))
                    (try (have z8_7_1 : w7.heap.size + 1 < w8.heap.size := by omega))
                    have p0'' : w8.cell? ⟨w1.heap.size, 0, none⟩ = some (.int .i64 ax) := (hc8 _ _ (by omega)).trans ((hc7 _ _ (by omega)).trans p0')
                    have p2'' : w8.cell? ⟨w1.heap.size, 2, none⟩ = some (.int .i64 aw) := (hc8 _ _ (by omega)).trans ((hc7 _ _ (by omega)).trans p2')
                    clear hc7 hf7 hc8 hf8 p0' p1' p2' p3' o0' o1' o2' o3' o0'' o1'' o2'' o3''
                    go_wp2_with fail
                    go_roundw
                    case rel => exact ⟨x + 1 + sw, by omega, by omega, rfl, (hbk.trans (hb7.mono (by omega))).trans (hb8.mono (by omega))⟩
                    case measure => first | (simp [intOf]; done) | (simp [intOf]; omega)
                  · rw [hp] at hct CK
                    have hct' : cntP x y L = 0 := by simpa using hct
                    rw [hct']
                    clear hct hct' hp
                    go_wp2_with fail
                    go_at_call 23
                    refine (CK _).mono ?_
                    rintro e w7 ⟨rfl, hb7⟩
                    obtain ⟨hc7, hf7, -, hz7⟩ := bcell hb7
                    (try simp at hz7)
                    (try (have y7 : w.heap.size ≤ w7.heap.size := by omega))
                    (try (have z7_0_0 : w.heap.size < w7.heap.size := by omega))
                    (try (have z7_0_1 : w.heap.size + 1 < w7.heap.size := by omega))
                    (try (have z7_0_2 : w.heap.size + 1 + 1 < w7.heap.size := by omega))
                    (try (have z7_0_3 : w.heap.size + 1 + 1 + 1 < w7.heap.size := by omega))
                    (try (have z7_1_0 : w1.heap.size < w7.heap.size := by omega))
                    (try (have z7_1_1 : w1.heap.size + 1 < w7.heap.size := by omega))
                    (try (have z7_2_0 : w2.heap.size < w7.heap.size := by omega))
                    (try (have z7_2_1 : w2.heap.size + 1 < w7.heap.size := by omega))
                    (try (have z7_3_0 : w3.heap.size < w7.heap.size := by omega))
                    (try (have z7_3_1 : w3.heap.size + 1 < w7.heap.size := by omega))
                    (try (have z7_4_0 : w4.heap.size < w7.heap.size := by omega))
                    (try (have z7_4_1 : w4.heap.size + 1 < w7.heap.size := by omega))
                    (try (have z7_5_0 : w5.heap.size < w7.heap.size := by omega))
                    (try (have z7_5_1 : w5.heap.size + 1 < w7.heap.size := by omega))
                    (try (have z7_6_0 : w6.heap.size < w7.heap.size := by omega))
                    (try (have z7_6_1 : w6.heap.size + 1 < w7.heap.size := by omega))
                    have o0'' : w7.cell? ⟨w1.heap.size + 1, 0, none⟩ = some (.int .i64 ux) := (hc7 _ _ (by omega)).trans o0'
                    have o1'' : w7.cell? ⟨w1.heap.size + 1, 1, none⟩ = some (.int .i64 uy) := (hc7 _ _ (by omega)).trans o1'
                    have o2'' : w7.cell? ⟨w1.heap.size + 1, 2, none⟩ = some (.int .i64 uw) := (hc7 _ _ (by omega)).trans o2'
                    have o3'' : w7.cell? ⟨w1.heap.size + 1, 3, none⟩ = some (.int .i64 uh) := (hc7 _ _ (by omega)).trans o3'
                    go_wp2_with fail
                    go_at_call 23
                    refine (CK _).mono ?_
                    rintro e w8 ⟨rfl, hb8⟩
                    obtain ⟨hc8, hf8, -, hz8⟩ := bcell hb8
                    (try simp at hz8)
                    (try (have y8 : w.heap.size ≤ w8.heap.size := by omega))
                    (try (have z8_0_0 : w.heap.size < w8.heap.size := by omega))
                    (try (have z8_0_1 : w.heap.size + 1 < w8.heap.size := by omega))
                    (try (have z8_0_2 : w.heap.size + 1 + 1 < w8.heap.size := by omega))
                    (try (have z8_0_3 : w.heap.size + 1 + 1 + 1 < w8.heap.size := by omega))
                    (try (have z8_1_0 : w1.heap.size < w8.heap.size := by omega))
                    (try (have z8_1_1 : w1.heap.size + 1 < w8.heap.size := by omega))
                    (try (have z8_2_0 : w2.heap.size < w8.heap.size := by omega))
                    (try (have z8_2_1 : w2.heap.size + 1 < w8.heap.size := by omega))
                    (try (have z8_3_0 : w3.heap.size < w8.heap.size := by omega))
                    (try (have z8_3_1 : w3.heap.size + 1 < w8.heap.size := by omega))
                    (try (have z8_4_0 : w4.heap.size < w8.heap.size := by omega))
                    (try (have z8_4_1 : w4.heap.size + 1 < w8.heap.size := by omega))
                    (try (have z8_5_0 : w5.heap.size < w8.heap.size := by omega))
                    (try (have z8_5_1 : w5.heap.size + 1 < w8.heap.size := by omega))
                    (try (have z8_6_0 : w6.heap.size < w8.heap.size := by omega))
                    (try (have z8_6_1 : w6.heap.size + 1 < w8.heap.size := by omega))
                    (try (have z8_7_0 : w7.heap.size < w8.heap.size := by omega))
                    (try (have z8_7_1 : w7.heap.size + 1 < w8.heap.size := by omega))
                    have p0'' : w8.cell? ⟨w1.heap.size, 0, none⟩ = some (.int .i64 ax) := (hc8 _ _ (by omega)).trans ((hc7 _ _ (by omega)).trans p0')
                    have p2'' : w8.cell? ⟨w1.heap.size, 2, none⟩ = some (.int .i64 aw) := (hc8 _ _ (by omega)).trans ((hc7 _ _ (by omega)).trans p2')
                    clear hc7 hf7 hc8 hf8 p0' p1' p2' p3' o0' o1' o2' o3' o0'' o1'' o2'' o3''
                    go_wp2_with fail
                    go_roundw
                    case rel => exact ⟨x + 1 + sw, by omega, by omega, rfl, (hbk.trans (hb7.mono (by omega))).trans (hb8.mono (by omega))⟩
                    case measure => first | (simp [intOf]; done) | (simp [intOf]; omega)
            · have e2 : decide (x < ax + aw) = false := decide_eq_false hx
              have r1 : IntKind.i64.wrap (y + 1) = y + 1 := IntWalk.i64_in _ (by omega)
              have r2 : IntKind.i64.wrap (y + 1 + sh) = y + 1 + sh := IntWalk.i64_in _ (by omega)
              have hyy := mkhid (⟨hy, hy1, hy2⟩ : y < ay + ah ∧ ay ≤ y ∧ y ≤ 401)
              clear hx hx1 hx2 CB CP hcnt HR e1 o0 o1 o2 o3 p0 p1 p2 p3 hy hy1 hy2 hB6
              go_wp2_with fail
              obtain ⟨hy, hy1, hy2⟩ := hyy.out
              go_roundw
              case rel => exact ⟨y + 1 + sh, by omega, by omega, rfl, hbx⟩
              case measure => first | (simp [intOf]; done) | (simp [intOf]; omega)
        · have e1 : decide (y < ay + ah) = false := decide_eq_false hy
          go_wp2_with fail
          go_ret
          exact ⟨rfl, hB6.trans (hbr.mono (by omega))⟩
    · have hF : (vBox ax ay aw ah && vBox ux uy uw uh) = false := by cases h1 : vBox ax ay aw ah <;> cases h2 : vBox ux uy uw uh <;> simp_all
      go_at_call 19
      refine (C1 _).mono ?_
      rintro e w2 ⟨va, rfl, ho2, hb2⟩
      obtain ⟨hc2, hf2, -, hz2⟩ := bcell hb2
      (try simp at hz2)
      (try (have y2 : w.heap.size ≤ w2.heap.size := by omega))
      (try (have z2_0_0 : w.heap.size < w2.heap.size := by omega))
      (try (have z2_0_1 : w.heap.size + 1 < w2.heap.size := by omega))
      (try (have z2_0_2 : w.heap.size + 1 + 1 < w2.heap.size := by omega))
      (try (have z2_0_3 : w.heap.size + 1 + 1 + 1 < w2.heap.size := by omega))
      (try (have z2_1_0 : w1.heap.size < w2.heap.size := by omega))
      (try (have z2_1_1 : w1.heap.size + 1 < w2.heap.size := by omega))
      go_wp2_with fail
      go_at_call 21
      refine (C2 _).mono ?_
      rintro e w3 ⟨vb, rfl, ho3, hb3⟩
      obtain ⟨hc3, hf3, -, hz3⟩ := bcell hb3
      (try simp at hz3)
      (try (have y3 : w.heap.size ≤ w3.heap.size := by omega))
      (try (have z3_0_0 : w.heap.size < w3.heap.size := by omega))
      (try (have z3_0_1 : w.heap.size + 1 < w3.heap.size := by omega))
      (try (have z3_0_2 : w.heap.size + 1 + 1 < w3.heap.size := by omega))
      (try (have z3_0_3 : w.heap.size + 1 + 1 + 1 < w3.heap.size := by omega))
      (try (have z3_1_0 : w1.heap.size < w3.heap.size := by omega))
      (try (have z3_1_1 : w1.heap.size + 1 < w3.heap.size := by omega))
      (try (have z3_2_0 : w2.heap.size < w3.heap.size := by omega))
      (try (have z3_2_1 : w2.heap.size + 1 < w3.heap.size := by omega))
      go_wp2_with fail
      go_at_call 20
      refine (rd_rt (equalBoxes_same (ho2.below hb3) ho3 (by omega))).mono ?_
      rintro e w4 ⟨rfl, hb4⟩
      obtain ⟨hc4, hf4, -, hz4⟩ := bcell hb4
      (try simp at hz4)
      (try (have y4 : w.heap.size ≤ w4.heap.size := by omega))
      (try (have z4_0_0 : w.heap.size < w4.heap.size := by omega))
      (try (have z4_0_1 : w.heap.size + 1 < w4.heap.size := by omega))
      (try (have z4_0_2 : w.heap.size + 1 + 1 < w4.heap.size := by omega))
      (try (have z4_0_3 : w.heap.size + 1 + 1 + 1 < w4.heap.size := by omega))
      (try (have z4_1_0 : w1.heap.size < w4.heap.size := by omega))
      (try (have z4_1_1 : w1.heap.size + 1 < w4.heap.size := by omega))
      (try (have z4_2_0 : w2.heap.size < w4.heap.size := by omega))
      (try (have z4_2_1 : w2.heap.size + 1 < w4.heap.size := by omega))
      (try (have z4_3_0 : w3.heap.size < w4.heap.size := by omega))
      (try (have z4_3_1 : w3.heap.size + 1 < w4.heap.size := by omega))
      go_wp2_with fail
      cases ha : vBox ax ay aw ah
      · have CV := fun W => impl_ValidBox_c ax ay aw ah W
        rw [ha] at CV
        go_at_call 22
        refine (CV _).mono ?_
        rintro e w5 ⟨rfl, hb5⟩
        obtain ⟨hc5, hf5, -, hz5⟩ := bcell hb5
        (try simp at hz5)
        (try (have y5 : w.heap.size ≤ w5.heap.size := by omega))
        (try (have z5_0_0 : w.heap.size < w5.heap.size := by omega))
        (try (have z5_0_1 : w.heap.size + 1 < w5.heap.size := by omega))
        (try (have z5_0_2 : w.heap.size + 1 + 1 < w5.heap.size := by omega))
        (try (have z5_0_3 : w.heap.size + 1 + 1 + 1 < w5.heap.size := by omega))
        (try (have z5_1_0 : w1.heap.size < w5.heap.size := by omega))
        (try (have z5_1_1 : w1.heap.size + 1 < w5.heap.size := by omega))
        (try (have z5_2_0 : w2.heap.size < w5.heap.size := by omega))
        (try (have z5_2_1 : w2.heap.size + 1 < w5.heap.size := by omega))
        (try (have z5_3_0 : w3.heap.size < w5.heap.size := by omega))
        (try (have z5_3_1 : w3.heap.size + 1 < w5.heap.size := by omega))
        (try (have z5_4_0 : w4.heap.size < w5.heap.size := by omega))
        (try (have z5_4_1 : w4.heap.size + 1 < w5.heap.size := by omega))
        go_wp2_with fail
        go_at_call 21
        refine (C2 _).mono ?_
        rintro e w6 ⟨vc, rfl, ho6, hb6⟩
        obtain ⟨hc6, hf6, -, hz6⟩ := bcell hb6
        (try simp at hz6)
        (try (have y6 : w.heap.size ≤ w6.heap.size := by omega))
        (try (have z6_0_0 : w.heap.size < w6.heap.size := by omega))
        (try (have z6_0_1 : w.heap.size + 1 < w6.heap.size := by omega))
        (try (have z6_0_2 : w.heap.size + 1 + 1 < w6.heap.size := by omega))
        (try (have z6_0_3 : w.heap.size + 1 + 1 + 1 < w6.heap.size := by omega))
        (try (have z6_1_0 : w1.heap.size < w6.heap.size := by omega))
        (try (have z6_1_1 : w1.heap.size + 1 < w6.heap.size := by omega))
        (try (have z6_2_0 : w2.heap.size < w6.heap.size := by omega))
        (try (have z6_2_1 : w2.heap.size + 1 < w6.heap.size := by omega))
        (try (have z6_3_0 : w3.heap.size < w6.heap.size := by omega))
        (try (have z6_3_1 : w3.heap.size + 1 < w6.heap.size := by omega))
        (try (have z6_4_0 : w4.heap.size < w6.heap.size := by omega))
        (try (have z6_4_1 : w4.heap.size + 1 < w6.heap.size := by omega))
        (try (have z6_5_0 : w5.heap.size < w6.heap.size := by omega))
        (try (have z6_5_1 : w5.heap.size + 1 < w6.heap.size := by omega))
        go_wp2_with fail
        go_at_call 20
        refine (rd_rt (equalBoxes_same (((((ho2.below hb3).below hb4).below hb5)).below hb6) ho6 (by omega))).mono ?_
        rintro e w7 ⟨rfl, hb7⟩
        obtain ⟨hc7, hf7, -, hz7⟩ := bcell hb7
        (try simp at hz7)
        (try (have y7 : w.heap.size ≤ w7.heap.size := by omega))
        (try (have z7_0_0 : w.heap.size < w7.heap.size := by omega))
        (try (have z7_0_1 : w.heap.size + 1 < w7.heap.size := by omega))
        (try (have z7_0_2 : w.heap.size + 1 + 1 < w7.heap.size := by omega))
        (try (have z7_0_3 : w.heap.size + 1 + 1 + 1 < w7.heap.size := by omega))
        (try (have z7_1_0 : w1.heap.size < w7.heap.size := by omega))
        (try (have z7_1_1 : w1.heap.size + 1 < w7.heap.size := by omega))
        (try (have z7_2_0 : w2.heap.size < w7.heap.size := by omega))
        (try (have z7_2_1 : w2.heap.size + 1 < w7.heap.size := by omega))
        (try (have z7_3_0 : w3.heap.size < w7.heap.size := by omega))
        (try (have z7_3_1 : w3.heap.size + 1 < w7.heap.size := by omega))
        (try (have z7_4_0 : w4.heap.size < w7.heap.size := by omega))
        (try (have z7_4_1 : w4.heap.size + 1 < w7.heap.size := by omega))
        (try (have z7_5_0 : w5.heap.size < w7.heap.size := by omega))
        (try (have z7_5_1 : w5.heap.size + 1 < w7.heap.size := by omega))
        (try (have z7_6_0 : w6.heap.size < w7.heap.size := by omega))
        (try (have z7_6_1 : w6.heap.size + 1 < w7.heap.size := by omega))
        go_wp2_with fail
        go_ret
        exact ⟨rfl, (by repeat' (first | with_reducible exact Below.refl _ _ | with_reducible refine Below.alloc ?_ (by first | omega | (simp; done) | (simp; omega)) _ | with_reducible refine Below.drew ?_ | with_reducible refine below_drewN ?_ _ | with_reducible refine Below.setCell ?_ (by first | omega | (simp; done) | (simp; omega)) _ | with_reducible refine Below.grown ?_ (by assumption) (by first | omega | (simp; done) | (simp; omega)) (by intro k hk; cases hk; omega) | with_reducible refine Below.trans ?_ (Below.mono (by assumption) (by first | omega | (simp; done) | (simp; omega)))))⟩
      · have hb : vBox ux uy uw uh = false := by rw [ha] at hF; simpa using hF
        have CV := fun W => impl_ValidBox_c ax ay aw ah W
        have CU := fun W => impl_ValidBox_c ux uy uw uh W
        rw [ha] at CV
        rw [hb] at CU
        go_at_call 22
        refine (CV _).mono ?_
        rintro e w5 ⟨rfl, hb5⟩
        obtain ⟨hc5, hf5, -, hz5⟩ := bcell hb5
        (try simp at hz5)
        (try (have y5 : w.heap.size ≤ w5.heap.size := by omega))
        (try (have z5_0_0 : w.heap.size < w5.heap.size := by omega))
        (try (have z5_0_1 : w.heap.size + 1 < w5.heap.size := by omega))
        (try (have z5_0_2 : w.heap.size + 1 + 1 < w5.heap.size := by omega))
        (try (have z5_0_3 : w.heap.size + 1 + 1 + 1 < w5.heap.size := by omega))
        (try (have z5_1_0 : w1.heap.size < w5.heap.size := by omega))
        (try (have z5_1_1 : w1.heap.size + 1 < w5.heap.size := by omega))
        (try (have z5_2_0 : w2.heap.size < w5.heap.size := by omega))
        (try (have z5_2_1 : w2.heap.size + 1 < w5.heap.size := by omega))
        (try (have z5_3_0 : w3.heap.size < w5.heap.size := by omega))
        (try (have z5_3_1 : w3.heap.size + 1 < w5.heap.size := by omega))
        (try (have z5_4_0 : w4.heap.size < w5.heap.size := by omega))
        (try (have z5_4_1 : w4.heap.size + 1 < w5.heap.size := by omega))
        go_wp2_with fail
        go_at_call 22
        refine (CU _).mono ?_
        rintro e w6 ⟨rfl, hb6⟩
        obtain ⟨hc6, hf6, -, hz6⟩ := bcell hb6
        (try simp at hz6)
        (try (have y6 : w.heap.size ≤ w6.heap.size := by omega))
        (try (have z6_0_0 : w.heap.size < w6.heap.size := by omega))
        (try (have z6_0_1 : w.heap.size + 1 < w6.heap.size := by omega))
        (try (have z6_0_2 : w.heap.size + 1 + 1 < w6.heap.size := by omega))
        (try (have z6_0_3 : w.heap.size + 1 + 1 + 1 < w6.heap.size := by omega))
        (try (have z6_1_0 : w1.heap.size < w6.heap.size := by omega))
        (try (have z6_1_1 : w1.heap.size + 1 < w6.heap.size := by omega))
        (try (have z6_2_0 : w2.heap.size < w6.heap.size := by omega))
        (try (have z6_2_1 : w2.heap.size + 1 < w6.heap.size := by omega))
        (try (have z6_3_0 : w3.heap.size < w6.heap.size := by omega))
        (try (have z6_3_1 : w3.heap.size + 1 < w6.heap.size := by omega))
        (try (have z6_4_0 : w4.heap.size < w6.heap.size := by omega))
        (try (have z6_4_1 : w4.heap.size + 1 < w6.heap.size := by omega))
        (try (have z6_5_0 : w5.heap.size < w6.heap.size := by omega))
        (try (have z6_5_1 : w5.heap.size + 1 < w6.heap.size := by omega))
        go_wp2_with fail
        go_at_call 21
        refine (C2 _).mono ?_
        rintro e w7 ⟨vc, rfl, ho7, hb7⟩
        obtain ⟨hc7, hf7, -, hz7⟩ := bcell hb7
        (try simp at hz7)
        (try (have y7 : w.heap.size ≤ w7.heap.size := by omega))
        (try (have z7_0_0 : w.heap.size < w7.heap.size := by omega))
        (try (have z7_0_1 : w.heap.size + 1 < w7.heap.size := by omega))
        (try (have z7_0_2 : w.heap.size + 1 + 1 < w7.heap.size := by omega))
        (try (have z7_0_3 : w.heap.size + 1 + 1 + 1 < w7.heap.size := by omega))
        (try (have z7_1_0 : w1.heap.size < w7.heap.size := by omega))
        (try (have z7_1_1 : w1.heap.size + 1 < w7.heap.size := by omega))
        (try (have z7_2_0 : w2.heap.size < w7.heap.size := by omega))
        (try (have z7_2_1 : w2.heap.size + 1 < w7.heap.size := by omega))
        (try (have z7_3_0 : w3.heap.size < w7.heap.size := by omega))
        (try (have z7_3_1 : w3.heap.size + 1 < w7.heap.size := by omega))
        (try (have z7_4_0 : w4.heap.size < w7.heap.size := by omega))
        (try (have z7_4_1 : w4.heap.size + 1 < w7.heap.size := by omega))
        (try (have z7_5_0 : w5.heap.size < w7.heap.size := by omega))
        (try (have z7_5_1 : w5.heap.size + 1 < w7.heap.size := by omega))
        (try (have z7_6_0 : w6.heap.size < w7.heap.size := by omega))
        (try (have z7_6_1 : w6.heap.size + 1 < w7.heap.size := by omega))
        go_wp2_with fail
        go_at_call 20
        refine (rd_rt (equalBoxes_same ((((((ho2.below hb3).below hb4).below hb5)).below hb6).below hb7) ho7 (by omega))).mono ?_
        rintro e w8 ⟨rfl, hb8⟩
        obtain ⟨hc8, hf8, -, hz8⟩ := bcell hb8
        (try simp at hz8)
        (try (have y8 : w.heap.size ≤ w8.heap.size := by omega))
        (try (have z8_0_0 : w.heap.size < w8.heap.size := by omega))
        (try (have z8_0_1 : w.heap.size + 1 < w8.heap.size := by omega))
        (try (have z8_0_2 : w.heap.size + 1 + 1 < w8.heap.size := by omega))
        (try (have z8_0_3 : w.heap.size + 1 + 1 + 1 < w8.heap.size := by omega))
        (try (have z8_1_0 : w1.heap.size < w8.heap.size := by omega))
        (try (have z8_1_1 : w1.heap.size + 1 < w8.heap.size := by omega))
        (try (have z8_2_0 : w2.heap.size < w8.heap.size := by omega))
        (try (have z8_2_1 : w2.heap.size + 1 < w8.heap.size := by omega))
        (try (have z8_3_0 : w3.heap.size < w8.heap.size := by omega))
        (try (have z8_3_1 : w3.heap.size + 1 < w8.heap.size := by omega))
        (try (have z8_4_0 : w4.heap.size < w8.heap.size := by omega))
        (try (have z8_4_1 : w4.heap.size + 1 < w8.heap.size := by omega))
        (try (have z8_5_0 : w5.heap.size < w8.heap.size := by omega))
        (try (have z8_5_1 : w5.heap.size + 1 < w8.heap.size := by omega))
        (try (have z8_6_0 : w6.heap.size < w8.heap.size := by omega))
        (try (have z8_6_1 : w6.heap.size + 1 < w8.heap.size := by omega))
        (try (have z8_7_0 : w7.heap.size < w8.heap.size := by omega))
        (try (have z8_7_1 : w7.heap.size + 1 < w8.heap.size := by omega))
        go_wp2_with fail
        go_ret
        exact ⟨rfl, (by repeat' (first | with_reducible exact Below.refl _ _ | with_reducible refine Below.alloc ?_ (by first | omega | (simp; done) | (simp; omega)) _ | with_reducible refine Below.drew ?_ | with_reducible refine below_drewN ?_ _ | with_reducible refine Below.setCell ?_ (by first | omega | (simp; done) | (simp; omega)) _ | with_reducible refine Below.grown ?_ (by assumption) (by first | omega | (simp; done) | (simp; omega)) (by intro k hk; cases hk; omega) | with_reducible refine Below.trans ?_ (Below.mono (by assumption) (by first | omega | (simp; done) | (simp; omega)))))⟩
end Go.Proofs.Ytimfabpigpcjhaa
