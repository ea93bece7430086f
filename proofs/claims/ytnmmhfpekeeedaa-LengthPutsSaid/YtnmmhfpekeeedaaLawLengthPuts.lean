/- For every input that can be read as data, the law LengthPuts answers true, and its arguments read behind the call as they did before it: no condition beyond what the given statement itself says. -/
import Derived.Test.YtnmmhfpekeeedaaRows
import Derived.Test.YtnmmhfpekeeedaaPNx11
import Derived.Test.YtnmmhfpekeeedaaPureLengthPuts
import Derived.Test.YtnmmhfpekeeedaaNOpens
import Derived.WalkKit
import Derived.ProofKit
import Derived.OpenShut
import Derived.ShutString
import Derived.ChangeOld
import Derived.Below
import Derived.SizedLaws
namespace Go.Proofs.Ytnmmhfpekeeedaa.lengthPuts
open Go.ChangeShapes Go.WideShapes Go.ChangeAt Go.RowKit Go.Proofs.Ytnmmhfpekeeedaa.PN Go.Proofs.Ytnmmhfpekeeedaa.Opn Go.Proofs.YtnmmhfpekeeedaaW.PrintWords
open Go.ChangeMaps (open_string shut_string)
set_option linter.unusedVariables false
theorem own : ownKnob Try.prog.godebug = none := by kernel_rfl
theorem laidOut : laidOutB Try.prog = true := by kernel_rfl
theorem opens_k60 : Opens Try.prog k60 60 (fun x => ((Lit.int .i64 x.f0).wf = true) ∧ ((Lit.int .i64 x.f1).wf = true)) := by
  have h : Opens Try.prog _ 60 _ := (opens_struct Try.underlying60 rfl (opensF_cons (by kernel_rfl) (opens_int Try.underlying3) (opensF_one (by kernel_rfl) (by kernel_rfl) (opens_int Try.underlying3))))
  exact opens_iso (f := fun x : S60 => (x.f0, x.f1)) (fun y => ⟨y.1, y.2⟩) (fun _ => rfl) h
set_option maxHeartbeats 4000000 in
set_option maxRecDepth 100000 in
theorem lifted (os : Os) (started : os.Started) (H : Type) (enc : TypeId × Value → H) :
    ReturnsInHanded {} Try.checked os 8 .any (Rows.lengthPutsSpec.pre6 enc Try.prog Try.f8 Rows.lengthPutsRow.domain false) (Rows.lengthPutsSpec.post enc Try.prog Try.f8 false true false false) := by
  refine returnsInHanded_of_change_sized (C := Try.checked) own started (by kernel_rfl) Try.func8
    (ChangeSpec.witness6 (enc := enc) (C := Try.checked) false ⟨#[], #[.agg #[.int .i64 0, .int .i64 0]], []⟩ 8 (by kernel_rfl) (by kernel_rfl) (by kernel_rfl) (by kernel_rfl)) ?_
  intro W base args ds gs before hval0 hW hcnd hsz0 _
  have hsz : (DataW.weightsEach Try.prog (Try.f8.params.toList ++ Rows.lengthPutsSpec.plain.varTypes Try.prog) (ds ++ gs)).all (· ≤ reachBytes) = true := hsz0
  have hval : ∀ (j : Nat) t v, Try.f8.params[j]? = some t → args[j]? = some v → Value.okWide Try.prog W .any base t v := hval0
  have hW' := hW
  obtain ⟨p, q, hA0, hV, rfl, hfz, hnd⟩ := hW
  have hA : DataW.TrodAll enc Try.prog W 0 (fun _ => true) true Try.f8.params.toList args.toList ds p := hA0
  rw [Try.params8] at hA hval hsz
  obtain ⟨v0, vs0, d0, ds0, p0, q0, hargs, rfl, rfl, h0, r0⟩ := trodAll_cons hA
  obtain ⟨rfl, rfl, rfl⟩ := trodAll_nil r0
  obtain rfl : args = #[v0] := by cases args; simp_all
  obtain ⟨rfl, rfl⟩ := trodVars_none hV
  have t0 := h0
  have lt0 : ∀ x ∈ p0, x.block < W.heap.size := by obtain ⟨m, hm⟩ := t0; exact DataW.trod_lt m _ _ _ hm
  obtain ⟨y0, wf0, K0⟩ := opens_arg opens_k60 hsz (j := 0) (t := 60) rfl rfl h0
  have e0 := k60_open K0
  obtain rfl := agg_of (hval 0 60 v0 rfl rfl) (.inl ⟨_, Try.underlying60⟩) e0
  obtain ⟨w0_0, w0_1⟩ := wf0
  clear hA0 hval0 hsz0 hsz
  refine (regimenlaw14_LengthPuts.walk Pure.LengthPuts y0.f0 y0.f1 W w0_0 w0_1).mono fun e W' ⟨he, bel⟩ => ?_
  subst he
  exact ⟨_, rfl, _, _, _, [], _, [], hW', trodAll_mk1 (shut_bool Try.underlying4 _), (trodAll_cons_mk (Below.trod laidOut (by kernel_rfl) (of_decide_eq_true (by kernel_rfl)) t0 bel lt0) trodAll_mk0), rfl, bel.frame _, fun h => by cases h⟩
theorem over : Rows.lengthPutsRow.holds Try.pinned (OpenSpec.ofChange Rows.lengthPutsSpec) :=
  OpenClaim.holds_of_wide 8 Try.f8 rfl rfl rfl rfl rfl rfl rfl ⟨rfl, rfl, rfl, rfl, rfl⟩ rfl rfl rfl rfl rfl (by kernel_rfl) Try.func8 (by kernel_rfl)
    (of_decide_eq_true (by kernel_rfl)) (by unfold Func.isWrapper; first | (rw [if_pos (by decide +kernel)]; kernel_rfl) | (rw [if_neg (by decide +kernel)]; exact ⟨rfl, rfl⟩))
    (fun os started H enc _ => lifted os started H enc)
theorem proved : Rows.LengthPutsSaid := over
end Go.Proofs.Ytnmmhfpekeeedaa.lengthPuts
namespace Go.Proofs.Ytnmmhfpekeeedaa
/-- The row, under a short name, for the claim. -/
theorem lengthPuts_holds : Rows.LengthPutsSaid := lengthPuts.proved
end Go.Proofs.Ytnmmhfpekeeedaa
