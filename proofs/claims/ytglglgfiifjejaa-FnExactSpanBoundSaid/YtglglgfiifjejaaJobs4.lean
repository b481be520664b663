/- eqJobS, the opening of a slice of jobs, and the walk of the exact law on ValidJobs; no statement is proved here. -/
import Derived.Test.YtglglgfiifjejaaJobs3
import Derived.Deep.SlicePairs
namespace Go.Proofs.Ytglglgfiifjejaa
open Go.ChangeShapes Go.WideShapes Go.ChangeAt Go.RowKit Go.Deep
set_option linter.unusedVariables false
set_option linter.unusedSimpArgs false

theorem list_of (n : Nat) (P : Nat → Int → Prop) (h : ∀ i, i < n → ∃ x, P i x) : ∃ zs : List Int, zs.length = n ∧ ∀ i, i < n → P i (el zs i) := by
  induction n with
  | zero => exact ⟨[], rfl, fun i hi => by omega⟩
  | succ n ih =>
    obtain ⟨zs, hl, hz⟩ := ih (fun i hi => h i (by omega))
    obtain ⟨x, hx⟩ := h n (by omega)
    refine ⟨zs ++ [x], by simp [hl], fun i hi => ?_⟩
    by_cases e : i < n
    · rw [el_append_left (by omega)]; exact hz i e
    · obtain rfl : i = zs.length := by omega
      rw [el_append_at, hl]; exact hx
theorem cell_lt {w : World} {b o : Nat} {v : Value} (h : w.cell? ⟨b, o, none⟩ = some v) : b < w.heap.size := by
  apply Nat.lt_of_not_le
  intro hle
  unfold World.cell? at h
  rw [Array.getElem?_eq_none hle] at h
  simp at h
def JRaw (W : World) (v : Value) (n : Nat) (cs hs : List Int) : Prop := ∃ pp cap, v = .slice pp n cap ∧ cs.length = n ∧ hs.length = n ∧ (0 < n → ∃ b off, pp = some ⟨b, off, none⟩ ∧ n ≤ cap ∧ cap ≤ maxLen ∧ b < W.heap.size ∧
      (∀ i, i < n → W.cell? ⟨b, off + i * 2, none⟩ = some (.int .i64 (el cs i))) ∧ ∀ i, i < n → W.cell? ⟨b, off + i * 2 + 1, none⟩ = some (.int .i64 (el hs i)))
theorem JRaw.isl {W : World} {v : Value} {n : Nat} {cs hs : List Int} (h : JRaw W v n cs hs) (hn : n ≤ 1048576) : JISl W v n cs hs := by
  obtain ⟨pp, cap, h1, h2, h3, h4⟩ := h
  refine ⟨pp, cap, h1, h2, h3, fun h0 => ?_⟩
  obtain ⟨b, off, e, a1, a2, a3, a4, a5⟩ := h4 h0
  exact ⟨b, off, e, ⟨h2, h3, hn, a1, a2, a3, a4, a5⟩⟩
theorem JISl.below {W w : World} {v : Value} {n : Nat} {cs hs : List Int} (h : JISl W v n cs hs) (hb : Below W.heap.size W w) : JISl w v n cs hs := by
  obtain ⟨p, cap, h1, h2, h3, h4⟩ := h
  refine ⟨p, cap, h1, h2, h3, fun h0 => ?_⟩
  obtain ⟨b, off, e, h5⟩ := h4 h0
  exact ⟨b, off, e, h5.below hb⟩
theorem open_jsl {H : Type} {enc : TypeId × Value → H} {P : Program} {W : World} {base : Nat} {t e : TypeId} {f0 f1 : Field} {v : Value} {d : DataW H} {p : List MemPlace} (ht : P.underlying t = some (.slice e)) (he : P.underlying e = some (.struct #[f0, f1]))
    (ce : P.cellsOf e = 2) (o0 : f0.offset = 0) (o1 : f1.offset = 1) (c0 : P.cellsOf f0.type = 1) (c1 : P.cellsOf f1.type = 1) (u0 : P.underlying f0.type = some (.int .i64)) (u1 : P.underlying f1.type = some (.int .i64))
    (hok : Value.okWide P W .any base t v) (h : DataW.Trod enc P W 0 (fun _ => true) true t v d p) : ∃ n cs hs, n ≤ maxLen ∧ JRaw W v n cs hs := by
  obtain ⟨a0, len, cap, rfl⟩ := okWide_slice ht hok
  obtain ⟨fuel, hf⟩ := h
  rcases open_slice_pairs ht he ce o0 o1 c0 c1 hf with ⟨hcs, hx⟩ | ⟨a, len', cap', m, n, V0, V1, D0, D1, P0, P1, hcs, _, hl, hm, hmm, hx, hi⟩
  · simp [Value.cells] at hcs
    obtain ⟨rfl, rfl, rfl⟩ := hcs
    exact ⟨0, [], [], by unfold maxLen; omega, none, 0, rfl, rfl, rfl, fun h => by omega⟩
  · simp [Value.cells] at hcs
    obtain ⟨rfl, rfl, rfl⟩ := hcs
    have hlm : len ≤ m := by rw [hmm]; split <;> omega
    obtain ⟨cs, k1, hcs⟩ := list_of len (fun i x => V0 i = .int .i64 x) (fun i hil => by
      obtain ⟨z, gz, _, _⟩ := DataW.trod_int u0 (hi i (by omega)).2.2.1
      exact ⟨z, (List.cons.inj gz).1⟩)
    obtain ⟨hs, k2, hhs⟩ := list_of len (fun i x => V1 i = .int .i64 x) (fun i hil => by
      obtain ⟨z, gz, _, _⟩ := DataW.trod_int u1 (hi i (by omega)).2.2.2
      exact ⟨z, (List.cons.inj gz).1⟩)
    refine ⟨len, cs, hs, by omega, some a, cap, rfl, k1, k2, fun h0 => ?_⟩
    obtain ⟨b, off, spot⟩ := a
    have hc0 := (hi 0 (by omega)).1
    have hspot : spot = none := by simpa [Addr.add] using World.cell?_spot hc0
    subst hspot
    refine ⟨b, off, rfl, hl, hm, ?_, fun i hil => ?_, fun i hil => ?_⟩
    · exact cell_lt (o := off + 0 * 2) (v := V0 0) hc0
    · have := (hi i (by omega)).1
      rw [hcs i hil, Go.WideShapes.add_plain] at this
      exact this
    · have := (hi i (by omega)).2.1
      rw [hhs i hil] at this
      exact this
theorem eqJobS_same {b off n cap b' off' cap' : Nat} {cs hs : List Int} {w : World} (h : JSl w b off n cap cs hs) (h' : JSl w b' off' n cap' cs hs) : Calls Try.prog 30 #[.slice (some ⟨b, off, none⟩) n cap, .slice (some ⟨b', off', none⟩) n cap'] w (Rt (.bool true) w) := by
  have hsm := h.small
  have e0 : ((n : Int) != (n : Int)) = false := by simp
  go_enter Try.func30, Try.ntmps30
  go_wp2_with fail
  go_loopw [5] (fun i wr => ∃ k : Nat, k ≤ n ∧ i = .int .i64 k ∧ Below w.heap.size w wr) (fun i _ => n - (intOf i).toNat)
  case atStart => exact ⟨0, Nat.zero_le _, rfl, Below.refl _ _⟩
  case round =>
    obtain ⟨k, hk, rfl, hbr⟩ := hrel
    by_cases hlt : k < n
    · have i1 : (0 : Int) ≤ (k : Int) := by omega
      have i2 : (k : Int) < (n : Int) := by omega
      have c1 := (h.below hbr).cell1 k hlt
      have c2 := (h.below hbr).cell2 k hlt
      have c3 := (h'.below hbr).cell1 k hlt
      have c4 := (h'.below hbr).cell2 k hlt
      obtain ⟨x, hx⟩ : ∃ x, x = el cs k := ⟨_, rfl⟩
      obtain ⟨y, hy⟩ : ∃ y, y = el hs k := ⟨_, rfl⟩
      rw [← hx] at c1 c3
      rw [← hy] at c2 c4
      have hsz := hbr.size
      have CE := fun W => eqJob_c x y x y W
      rw [decide_eq_true (show x = x ∧ y = y from ⟨rfl, rfl⟩)] at CE
      clear hx hy
      go_wp2_with fail
      go_region_with (first | (go_at_call 71; refine (CE _).mono ?_; rintro e w2 ⟨rfl, hb2⟩))
      all_goals go_wp2_with fail
      all_goals go_roundw
      case rel => exact ⟨k + 1, by omega, by go_num, (by repeat' (first | with_reducible exact Below.refl _ _ | with_reducible refine Below.alloc ?_ (by first | omega | (simp; done) | (simp; omega)) _ | with_reducible refine Below.drew ?_ | with_reducible refine below_drewN ?_ _ | with_reducible refine Below.setCell ?_ (by first | omega | (simp; done) | (simp; omega)) _ | with_reducible refine Below.grown ?_ (by assumption) (by first | omega | (simp; done) | (simp; omega)) (by intro k hk; cases hk; omega) | with_reducible refine Below.trans ?_ (Below.mono (by assumption) (by first | omega | (simp; done) | (simp; omega)))))⟩
      all_goals (first | (simp [intOf]; omega) | exact ⟨k + 1, by omega, by go_num, (by repeat' (first | with_reducible exact Below.refl _ _ | with_reducible refine Below.alloc ?_ (by first | omega | (simp; done) | (simp; omega)) _ | with_reducible refine Below.drew ?_ | with_reducible refine below_drewN ?_ _ | with_reducible refine Below.setCell ?_ (by first | omega | (simp; done) | (simp; omega)) _ | with_reducible refine Below.grown ?_ (by assumption) (by first | omega | (simp; done) | (simp; omega)) (by intro k hk; cases hk; omega) | with_reducible refine Below.trans ?_ (Below.mono (by assumption) (by first | omega | (simp; done) | (simp; omega)))))⟩ | trace_state)
    · go_wp2
      go_ret
      exact ⟨rfl, hbr⟩
set_option maxHeartbeats 1600000 in
theorem FnExactValidJobs_walk (v : Value) (n : Nat) (cs hs : List Int) (w : World) (hn : n ≤ maxLen) (hr : JRaw w v n cs hs) : Calls Try.prog 5 #[v] w (Rt (.bool true) w) := by
  have hr' := hr
  obtain ⟨pp, cap, rfl, _⟩ := hr'
  by_cases hl : n ≤ 1048576
  · have hj := hr.isl hl
    have CS := fun W => rs_rt (szJobS_c pp n cap 1048576 W hn (by omega))
    rw [if_pos (by omega)] at CS
    have d1 : decide ((1048576 : Int) - (n : Int) < 0) = false := decide_eq_false (by omega)
    go_enter Try.func5, Try.ntmps5
    go_wp2_with fail
    go_at_call 26
    refine (CS _).mono ?_
    rintro e w1 ⟨rfl, hb1⟩
    obtain ⟨hc1, hf1, -, hz1⟩ := bcell hb1
    (try simp at hz1)
    (try (have y1 : w.heap.size ≤ w1.heap.size := by omega))
    (try (have z1_0_0 : w.heap.size < w1.heap.size := by omega))
    (try (have z1_0_1 : w.heap.size + 1 < w1.heap.size := by omega))
    (try (have z1_0_2 : w.heap.size + 1 + 1 < w1.heap.size := by omega))
    (try (have z1_0_3 : w.heap.size + 1 + 1 + 1 < w1.heap.size := by omega))
    go_wp2_with fail
    go_at_call 28
    refine (toJobS_c _ n cs hs _ (hj.below hb1) hl).mono ?_
    rintro e w2 ⟨g2, rfl, j2, hb2⟩
    obtain ⟨hc2, hf2, -, hz2⟩ := bcell hb2
    (try simp at hz2)
    (try (have y2 : w.heap.size ≤ w2.heap.size := by omega))
    (try (have z2_0_0 : w.heap.size < w2.heap.size := by omega))
    (try (have z2_0_1 : w.heap.size + 1 < w2.heap.size := by omega))
    (try (have z2_0_2 : w.heap.size + 1 + 1 < w2.heap.size := by omega))
    (try (have z2_0_3 : w.heap.size + 1 + 1 + 1 < w2.heap.size := by omega))
    (try (have z2_1_0 : w1.heap.size < w2.heap.size := by omega))
    (try (have z2_1_1 : w1.heap.size + 1 < w2.heap.size := by omega))
    go_wp2_with fail
    go_at_call 27
    refine (rs_rt (spec_ValidJobs_s j2)).mono ?_
    rintro e w3 ⟨rfl, hb3⟩
    obtain ⟨hc3, hf3, -, hz3⟩ := bcell hb3
    (try simp at hz3)
    (try (have y3 : w.heap.size ≤ w3.heap.size := by omega))
    (try (have z3_0_0 : w.heap.size < w3.heap.size := by omega))
    (try (have z3_0_1 : w.heap.size + 1 < w3.heap.size := by omega))
    (try (have z3_0_2 : w.heap.size + 1 + 1 < w3.heap.size := by omega))
    (try (have z3_0_3 : w.heap.size + 1 + 1 + 1 < w3.heap.size := by omega))
    (try (have z3_1_0 : w1.heap.size < w3.heap.size := by omega))
    (try (have z3_1_1 : w1.heap.size + 1 < w3.heap.size := by omega))
    (try (have z3_2_0 : w2.heap.size < w3.heap.size := by omega))
    (try (have z3_2_1 : w2.heap.size + 1 < w3.heap.size := by omega))
    go_wp2_with fail
    have hj3 := ((hj.below hb1).below hb2).below hb3
    go_at_call 28
    refine (toJobS_c _ n cs hs _ hj3 hl).mono ?_
    rintro e w4 ⟨g4, rfl, j4, hb4⟩
    obtain ⟨hc4, hf4, -, hz4⟩ := bcell hb4
    (try simp at hz4)
    (try (have y4 : w.heap.size ≤ w4.heap.size := by omega))
    (try (have z4_0_0 : w.heap.size < w4.heap.size := by omega))
    (try (have z4_0_1 : w.heap.size + 1 < w4.heap.size := by omega))
    (try (have z4_0_2 : w.heap.size + 1 + 1 < w4.heap.size := by omega))
    (try (have z4_0_3 : w.heap.size + 1 + 1 + 1 < w4.heap.size := by omega))
    (try (have z4_1_0 : w1.heap.size < w4.heap.size := by omega))
    (try (have z4_1_1 : w1.heap.size + 1 < w4.heap.size := by omega))
    (try (have z4_2_0 : w2.heap.size < w4.heap.size := by omega))
    (try (have z4_2_1 : w2.heap.size + 1 < w4.heap.size := by omega))
    (try (have z4_3_0 : w3.heap.size < w4.heap.size := by omega))
    (try (have z4_3_1 : w3.heap.size + 1 < w4.heap.size := by omega))
    go_wp2_with fail
    go_at_call 29
    refine (impl_ValidJobs_s j4).mono ?_
    rintro e w5 ⟨rfl, hb5⟩
    obtain ⟨hc5, hf5, -, hz5⟩ := bcell hb5
    (try simp at hz5)
    (try (have y5 : w.heap.size ≤ w5.heap.size := by omega))
    (try (have z5_0_0 : w.heap.size < w5.heap.size := by omega))
    (try (have z5_0_1 : w.heap.size + 1 < w5.heap.size := by omega))
    (try (have z5_0_2 : w.heap.size + 1 + 1 < w5.heap.size := by omega))
    (try (have z5_0_3 : w.heap.size + 1 + 1 + 1 < w5.heap.size := by omega))
    (try (have z5_1_0 : w1.heap.size < w5.heap.size := by omega))
    (try (have z5_1_1 : w1.heap.size + 1 < w5.heap.size := by omega))
    (try (have z5_2_0 : w2.heap.size < w5.heap.size := by omega))
    (try (have z5_2_1 : w2.heap.size + 1 < w5.heap.size := by omega))
    (try (have z5_3_0 : w3.heap.size < w5.heap.size := by omega))
    (try (have z5_3_1 : w3.heap.size + 1 < w5.heap.size := by omega))
    (try (have z5_4_0 : w4.heap.size < w5.heap.size := by omega))
    (try (have z5_4_1 : w4.heap.size + 1 < w5.heap.size := by omega))
    go_wp2_with fail
    have j5 := j4.below hb5
    go_at_call 28
    refine (toJobS_c _ n cs hs _ ((hj3.below hb4).below hb5) hl).mono ?_
    rintro e w6 ⟨g6, rfl, j6, hb6⟩
    obtain ⟨hc6, hf6, -, hz6⟩ := bcell hb6
    (try simp at hz6)
    (try (have y6 : w.heap.size ≤ w6.heap.size := by omega))
    (try (have z6_0_0 : w.heap.size < w6.heap.size := by omega))
    (try (have z6_0_1 : w.heap.size + 1 < w6.heap.size := by omega))
    (try (have z6_0_2 : w.heap.size + 1 + 1 < w6.heap.size := by omega))
    (try (have z6_0_3 : w.heap.size + 1 + 1 + 1 < w6.heap.size := by omega))
    (try (have z6_1_0 : w1.heap.size < w6.heap.size := by omega))
    (try (have z6_1_1 : w1.heap.size + 1 < w6.heap.size := by omega))
    (try (have z6_2_0 : w2.heap.size < w6.heap.size := by omega))
    (try (have z6_2_1 : w2.heap.size + 1 < w6.heap.size := by omega))
    (try (have z6_3_0 : w3.heap.size < w6.heap.size := by omega))
    (try (have z6_3_1 : w3.heap.size + 1 < w6.heap.size := by omega))
    (try (have z6_4_0 : w4.heap.size < w6.heap.size := by omega))
    (try (have z6_4_1 : w4.heap.size + 1 < w6.heap.size := by omega))
    (try (have z6_5_0 : w5.heap.size < w6.heap.size := by omega))
    (try (have z6_5_1 : w5.heap.size + 1 < w6.heap.size := by omega))
    go_wp2_with fail
    go_at_call 30
    refine (eqJobS_same (j5.below hb6) j6).mono ?_
    rintro e w7 ⟨rfl, hb7⟩
    obtain ⟨hc7, hf7, -, hz7⟩ := bcell hb7
    (try simp at hz7)
    (try (have y7 : w.heap.size ≤ w7.heap.size := by omega))
    (try (have z7_0_0 : w.heap.size < w7.heap.size := by omega))
    (try (have z7_0_1 : w.heap.size + 1 < w7.heap.size := by omega))
    (try (have z7_0_2 : w.heap.size + 1 + 1 < w7.heap.size := by omega))
    (try (have z7_0_3 : w.heap.size + 1 + 1 + 1 < w7.heap.size := by omega))
    (try (have z7_1_0 : w1.heap.size < w7.heap.size := by omega))
    (try (have z7_1_1 : w1.heap.size + 1 < w7.heap.size := by omega))
    (try (have z7_2_0 : w2.heap.size < w7.heap.size := by omega))
    (try (have z7_2_1 : w2.heap.size + 1 < w7.heap.size := by omega))
    (try (have z7_3_0 : w3.heap.size < w7.heap.size := by omega))
    (try (have z7_3_1 : w3.heap.size + 1 < w7.heap.size := by omega))
    (try (have z7_4_0 : w4.heap.size < w7.heap.size := by omega))
    (try (have z7_4_1 : w4.heap.size + 1 < w7.heap.size := by omega))
    (try (have z7_5_0 : w5.heap.size < w7.heap.size := by omega))
    (try (have z7_5_1 : w5.heap.size + 1 < w7.heap.size := by omega))
    (try (have z7_6_0 : w6.heap.size < w7.heap.size := by omega))
    (try (have z7_6_1 : w6.heap.size + 1 < w7.heap.size := by omega))
    go_wp2_with fail
    go_ret
    exact ⟨rfl, (by repeat' (first | with_reducible exact Below.refl _ _ | with_reducible refine Below.alloc ?_ (by first | omega | (simp; done) | (simp; omega)) _ | with_reducible refine Below.drew ?_ | with_reducible refine below_drewN ?_ _ | with_reducible refine Below.setCell ?_ (by first | omega | (simp; done) | (simp; omega)) _ | with_reducible refine Below.grown ?_ (by assumption) (by first | omega | (simp; done) | (simp; omega)) (by intro k hk; cases hk; omega) | with_reducible refine Below.trans ?_ (Below.mono (by assumption) (by first | omega | (simp; done) | (simp; omega)))))⟩
  · have CS := fun W => rs_rt (szJobS_c pp n cap 1048576 W hn (by omega))
    rw [if_neg (by omega)] at CS
    go_enter Try.func5, Try.ntmps5
    go_wp2_with fail
    go_at_call 26
    refine (CS _).mono ?_
    rintro e w1 ⟨rfl, hb1⟩
    obtain ⟨hc1, hf1, -, hz1⟩ := bcell hb1
    (try simp at hz1)
    (try (have y1 : w.heap.size ≤ w1.heap.size := by omega))
    (try (have z1_0_0 : w.heap.size < w1.heap.size := by omega))
    (try (have z1_0_1 : w.heap.size + 1 < w1.heap.size := by omega))
    (try (have z1_0_2 : w.heap.size + 1 + 1 < w1.heap.size := by omega))
    (try (have z1_0_3 : w.heap.size + 1 + 1 + 1 < w1.heap.size := by omega))
    go_wp2_with fail
    go_ret
    exact ⟨rfl, (by repeat' (first | with_reducible exact Below.refl _ _ | with_reducible refine Below.alloc ?_ (by first | omega | (simp; done) | (simp; omega)) _ | with_reducible refine Below.drew ?_ | with_reducible refine below_drewN ?_ _ | with_reducible refine Below.setCell ?_ (by first | omega | (simp; done) | (simp; omega)) _ | with_reducible refine Below.grown ?_ (by assumption) (by first | omega | (simp; done) | (simp; omega)) (by intro k hk; cases hk; omega) | with_reducible refine Below.trans ?_ (Below.mono (by assumption) (by first | omega | (simp; done) | (simp; omega)))))⟩
end Go.Proofs.Ytglglgfiifjejaa
