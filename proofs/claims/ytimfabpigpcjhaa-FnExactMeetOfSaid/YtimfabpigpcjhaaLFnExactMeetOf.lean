/- For every input the law FnExactMeetOf returns true, and its arguments read behind the call as before. No condition beyond the given statement's own. -/
import Derived.Test.YtimfabpigpcjhaaWEXM2
import Derived.Test.YtimfabpigpcjhaaHead
import Derived.Lib.SmallJoins
namespace Go.Proofs.Ytimfabpigpcjhaa.fnExactMeetOf
open Go.ChangeShapes Go.WideShapes Go.ChangeAt Go.RowKit
set_option linter.unusedVariables false
set_option linter.unusedSimpArgs false
theorem own : ownKnob Try.prog.godebug = none := by kernel_rfl
set_option maxRecDepth 100000 in
theorem lifted (os : Os) (started : os.Started) (H : Type) (enc : TypeId × Value → H) :
    ReturnsInHanded {} Try.checked os 3 .any (Rows.fnExactMeetOfSpec.pre6 enc Try.prog Try.f3 Rows.fnExactMeetOfRow.domain false) (Rows.fnExactMeetOfSpec.post enc Try.prog Try.f3 false true false false) := by
  refine returnsInHanded_of_change (C := Try.checked) own started (by kernel_rfl) Try.func3
    (ChangeSpec.witness6 (enc := enc) (C := Try.checked) false ⟨#[], #[.agg #[.int .i64 0, .int .i64 0, .int .i64 0, .int .i64 0], .agg #[.int .i64 0, .int .i64 0, .int .i64 0, .int .i64 0]], []⟩ 8 (by kernel_rfl) (by kernel_rfl) (by kernel_rfl) (by kernel_rfl)) ?_
  intro W base args ds gs before hval0 hW hcnd _
  have hval : ∀ (j : Nat) t v, Try.f3.params[j]? = some t → args[j]? = some v → Value.okWide Try.prog W .any base t v := hval0
  have hW' := hW
  obtain ⟨p, q, hA0, hV, rfl, hfz, hnd⟩ := hW
  have hA : DataW.TrodAll enc Try.prog W 0 (fun _ => true) true Try.f3.params.toList args.toList ds p := hA0
  rw [Try.params3] at hA hval
  obtain ⟨v0, vs0, d0, ds0, p0, q0, hargs, rfl, rfl, h0, r0⟩ := trodAll_cons hA
  obtain ⟨v1, vs1, d1, ds1, p1, q1, rfl, rfl, rfl, h1, r1⟩ := trodAll_cons r0
  obtain ⟨rfl, rfl, rfl⟩ := trodAll_nil r1
  obtain rfl : args = #[v0, v1] := by cases args; simp_all
  obtain ⟨rfl, rfl⟩ := trodVars_none hV
  obtain ⟨c0_0, c0_1, c0_2, c0_3, y0_0, y0_1, y0_2, y0_3, m0, rfl, rfl, _, e0_0, e0_1, e0_2, e0_3⟩ := Joins.open_agg4 Try.underlying23 (by kernel_rfl) (by kernel_rfl) (hval 0 23 v0 rfl rfl) h0
  obtain ⟨a0_0, g0_0, _, w0_0⟩ := DataW.trod_int Try.underlying3 e0_0
  obtain rfl := (List.cons.inj g0_0).1
  obtain ⟨a0_1, g0_1, _, w0_1⟩ := DataW.trod_int Try.underlying3 e0_1
  obtain rfl := (List.cons.inj g0_1).1
  obtain ⟨a0_2, g0_2, _, w0_2⟩ := DataW.trod_int Try.underlying3 e0_2
  obtain rfl := (List.cons.inj g0_2).1
  obtain ⟨a0_3, g0_3, _, w0_3⟩ := DataW.trod_int Try.underlying3 e0_3
  obtain rfl := (List.cons.inj g0_3).1
  obtain ⟨c1_0, c1_1, c1_2, c1_3, y1_0, y1_1, y1_2, y1_3, m1, rfl, rfl, _, e1_0, e1_1, e1_2, e1_3⟩ := Joins.open_agg4 Try.underlying23 (by kernel_rfl) (by kernel_rfl) (hval 1 23 v1 rfl rfl) h1
  obtain ⟨a1_0, g1_0, _, w1_0⟩ := DataW.trod_int Try.underlying3 e1_0
  obtain rfl := (List.cons.inj g1_0).1
  obtain ⟨a1_1, g1_1, _, w1_1⟩ := DataW.trod_int Try.underlying3 e1_1
  obtain rfl := (List.cons.inj g1_1).1
  obtain ⟨a1_2, g1_2, _, w1_2⟩ := DataW.trod_int Try.underlying3 e1_2
  obtain rfl := (List.cons.inj g1_2).1
  obtain ⟨a1_3, g1_3, _, w1_3⟩ := DataW.trod_int Try.underlying3 e1_3
  obtain rfl := (List.cons.inj g1_3).1
  refine (FnExactMeetOf_walk a0_0 a0_1 a0_2 a0_3 a1_0 a1_1 a1_2 a1_3 W ).mono fun e W' ⟨he, hb⟩ => ?_
  exact ⟨_, he, law_post (P := Try.prog) (T := 4) (by kernel_rfl) Try.underlying4 rfl (by kernel_rfl) rfl hW' ⟨rfl, rfl, rfl⟩ hb⟩
theorem closed : joinedFacts Try.prog 3 Try.f3 Rows.fnExactMeetOfSpec Rows.fnExactMeetOfRow = true := by
  unfold joinedFacts
  repeat' (with_reducible refine band ?_ ?_)
  all_goals first | with_reducible exact may_enter | (rw [lifts_final]; as_aux_lemma => kernel_rfl) | (rw [make_eq]; as_aux_lemma => kernel_rfl) | (as_aux_lemma => kernel_rfl)
theorem over : Rows.fnExactMeetOfRow.holds Try.pinned (OpenSpec.ofChange Rows.fnExactMeetOfSpec) :=
  OpenClaim.holds_of_wide 3 Try.f3 rfl rfl rfl rfl rfl rfl rfl ⟨rfl, rfl, rfl, rfl, rfl⟩ rfl rfl rfl rfl rfl (by as_aux_lemma => kernel_rfl) Try.func3 closed
    (of_decide_eq_true (by as_aux_lemma => kernel_rfl)) (by unfold Func.isWrapper; first | (rw [if_pos (by decide +kernel)]; kernel_rfl) | (rw [if_neg (by decide +kernel)]; exact ⟨rfl, rfl⟩))
    (fun os started H enc _ => lifted os started H enc)
theorem proved : Rows.FnExactMeetOfSaid := over
end Go.Proofs.Ytimfabpigpcjhaa.fnExactMeetOf
