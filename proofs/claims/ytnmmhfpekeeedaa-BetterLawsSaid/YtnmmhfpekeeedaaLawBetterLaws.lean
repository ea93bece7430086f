/- For every input that can be read as data, the law BetterLaws answers true, and its arguments read behind the call as they did before it: no condition beyond what the given statement itself says. -/
import Derived.Test.YtnmmhfpekeeedaaRows
import Derived.Test.YtnmmhfpekeeedaaPBx9
import Derived.Test.YtnmmhfpekeeedaaPureBetterLaws
import Derived.Test.YtnmmhfpekeeedaaBOpens
import Derived.WalkKit
import Derived.ProofKit
import Derived.OpenShut
import Derived.ShutString
import Derived.ChangeOld
import Derived.Below
import Derived.SizedLaws
namespace Go.Proofs.Ytnmmhfpekeeedaa.betterLaws
open Go.ChangeShapes Go.WideShapes Go.ChangeAt Go.RowKit Go.Proofs.Ytnmmhfpekeeedaa.PB Go.Proofs.Ytnmmhfpekeeedaa.Opn Go.Proofs.YtnmmhfpekeeedaaW.PrintWords
open Go.ChangeMaps (open_string shut_string)
set_option linter.unusedVariables false
theorem own : ownKnob Try.prog.godebug = none := by kernel_rfl
theorem laidOut : laidOutB Try.prog = true := by kernel_rfl
theorem opens_k36 : Opens Try.prog k36 36 (fun x => ((Lit.int .i64 x.f0).wf = true) ∧ (((Lit.int .i64 x.f1).wf = true) ∧ ((Lit.int .i64 x.f2).wf = true))) := by
  have h : Opens Try.prog _ 36 _ := (opens_array Try.underlying36 (by kernel_rfl) (opensA_cons (by decide) (opens_int Try.underlying3) (opensA_cons (by decide) (opens_int Try.underlying3) (opensA_one rfl (opens_int Try.underlying3)))))
  exact opens_iso (f := fun x : S36 => (x.f0, x.f1, x.f2)) (fun y => ⟨y.1, y.2.1, y.2.2⟩) (fun _ => rfl) h
theorem opens_k38 : Opens Try.prog k38 38 (fun x => (True) ∧ (((Lit.int .i64 x.f1).wf = true) ∧ (True))) := by
  have h : Opens Try.prog _ 38 _ := (opens_struct Try.underlying38 rfl (opensF_cons (by kernel_rfl) (opens_bool Try.underlying4) (opensF_cons (by kernel_rfl) (opens_int Try.underlying3) (opensF_one (by kernel_rfl) (by kernel_rfl) (opens_bool Try.underlying4)))))
  exact opens_iso (f := fun x : S38 => (x.f0, x.f1, x.f2)) (fun y => ⟨y.1, y.2.1, y.2.2⟩) (fun _ => rfl) h
set_option maxHeartbeats 4000000 in
set_option maxRecDepth 100000 in
theorem lifted (os : Os) (started : os.Started) (H : Type) (enc : TypeId × Value → H) :
    ReturnsInHanded {} Try.checked os 5 .any (Rows.betterLawsSpec.pre6 enc Try.prog Try.f5 Rows.betterLawsRow.domain false) (Rows.betterLawsSpec.post enc Try.prog Try.f5 false true false false) := by
  refine returnsInHanded_of_change_sized (C := Try.checked) own started (by kernel_rfl) Try.func5
    (ChangeSpec.witness6 (enc := enc) (C := Try.checked) false ⟨#[], #[.agg #[.int .i64 0, .int .i64 0, .int .i64 0], .agg #[.bool false, .int .i64 0, .bool false]], []⟩ 8 (by kernel_rfl) (by kernel_rfl) (by kernel_rfl) (by kernel_rfl)) ?_
  intro W base args ds gs before hval0 hW hcnd hsz0 _
  have hsz : (DataW.weightsEach Try.prog (Try.f5.params.toList ++ Rows.betterLawsSpec.plain.varTypes Try.prog) (ds ++ gs)).all (· ≤ reachBytes) = true := hsz0
  have hval : ∀ (j : Nat) t v, Try.f5.params[j]? = some t → args[j]? = some v → Value.okWide Try.prog W .any base t v := hval0
  have hW' := hW
  obtain ⟨p, q, hA0, hV, rfl, hfz, hnd⟩ := hW
  have hA : DataW.TrodAll enc Try.prog W 0 (fun _ => true) true Try.f5.params.toList args.toList ds p := hA0
  rw [Try.params5] at hA hval hsz
  obtain ⟨v0, vs0, d0, ds0, p0, q0, hargs, rfl, rfl, h0, r0⟩ := trodAll_cons hA
  obtain ⟨v1, vs1, d1, ds1, p1, q1, rfl, rfl, rfl, h1, r1⟩ := trodAll_cons r0
  obtain ⟨rfl, rfl, rfl⟩ := trodAll_nil r1
  obtain rfl : args = #[v0, v1] := by cases args; simp_all
  obtain ⟨rfl, rfl⟩ := trodVars_none hV
  have t0 := h0
  have lt0 : ∀ x ∈ p0, x.block < W.heap.size := by obtain ⟨m, hm⟩ := t0; exact DataW.trod_lt m _ _ _ hm
  obtain ⟨y0, wf0, K0⟩ := opens_arg opens_k36 hsz (j := 0) (t := 36) rfl rfl h0
  have e0 := k36_open K0
  obtain rfl := agg_of (hval 0 36 v0 rfl rfl) (.inr ⟨_, _, Try.underlying36⟩) e0
  obtain ⟨w0_0, w0_1, w0_2⟩ := wf0
  have t1 := h1
  have lt1 : ∀ x ∈ p1, x.block < W.heap.size := by obtain ⟨m, hm⟩ := t1; exact DataW.trod_lt m _ _ _ hm
  obtain ⟨y1, wf1, K1⟩ := opens_arg opens_k38 hsz (j := 1) (t := 38) rfl rfl h1
  have e1 := k38_open K1
  obtain rfl := agg_of (hval 1 38 v1 rfl rfl) (.inl ⟨_, Try.underlying38⟩) e1
  obtain ⟨_, w1_1, _⟩ := wf1
  clear hA0 hval0 hsz0 hsz
  refine (regimenlaw29_BetterLaws.walk Pure.BetterLaws y0.f0 y0.f1 y0.f2 y1.f0 y1.f1 y1.f2 W w0_0 w0_1 w0_2  w1_1 ).mono fun e W' ⟨he, bel⟩ => ?_
  subst he
  exact ⟨_, rfl, _, _, _, [], _, [], hW', trodAll_mk1 (shut_bool Try.underlying4 _), (trodAll_cons_mk (Below.trod laidOut (by kernel_rfl) (of_decide_eq_true (by kernel_rfl)) t0 bel lt0) (trodAll_cons_mk (Below.trod laidOut (by kernel_rfl) (of_decide_eq_true (by kernel_rfl)) t1 bel lt1) trodAll_mk0)), rfl, bel.frame _, fun h => by cases h⟩
theorem over : Rows.betterLawsRow.holds Try.pinned (OpenSpec.ofChange Rows.betterLawsSpec) :=
  OpenClaim.holds_of_wide 5 Try.f5 rfl rfl rfl rfl rfl rfl rfl ⟨rfl, rfl, rfl, rfl, rfl⟩ rfl rfl rfl rfl rfl (by kernel_rfl) Try.func5 (by kernel_rfl)
    (of_decide_eq_true (by kernel_rfl)) (by unfold Func.isWrapper; first | (rw [if_pos (by decide +kernel)]; kernel_rfl) | (rw [if_neg (by decide +kernel)]; exact ⟨rfl, rfl⟩))
    (fun os started H enc _ => lifted os started H enc)
theorem proved : Rows.BetterLawsSaid := over
end Go.Proofs.Ytnmmhfpekeeedaa.betterLaws
namespace Go.Proofs.Ytnmmhfpekeeedaa
/-- The row, under a short name, for the claim. -/
theorem betterLaws_holds : Rows.BetterLawsSaid := betterLaws.proved
end Go.Proofs.Ytnmmhfpekeeedaa
