/- For every input that can be read as data, the law CursorNobody answers true, and its arguments read behind the call as they did before it: no condition beyond what the given statement itself says. -/
import Derived.Test.YtnmmhfpekeeedaaRows
import Derived.Test.YtnmmhfpekeeedaaPCx10
import Derived.Test.YtnmmhfpekeeedaaPureCursorNobody
import Derived.Test.YtnmmhfpekeeedaaCOpens
import Derived.WalkKit
import Derived.ProofKit
import Derived.OpenShut
import Derived.ShutString
import Derived.ChangeOld
import Derived.Below
import Derived.SizedLaws
namespace Go.Proofs.Ytnmmhfpekeeedaa.cursorNobody
open Go.ChangeShapes Go.WideShapes Go.ChangeAt Go.RowKit Go.Proofs.Ytnmmhfpekeeedaa.PC Go.Proofs.Ytnmmhfpekeeedaa.Opn Go.Proofs.YtnmmhfpekeeedaaW.PrintWords
open Go.ChangeMaps (open_string shut_string)
set_option linter.unusedVariables false
theorem own : ownKnob Try.prog.godebug = none := by kernel_rfl
theorem laidOut : laidOutB Try.prog = true := by kernel_rfl
theorem opens_k45 : Opens Try.prog k45 45 (fun x => ((Lit.int .i64 x.f0).wf = true) ∧ (((Lit.int .i64 x.f1).wf = true) ∧ ((x.f2.size ≤ 140737488351232) ∧ (((Lit.int .i64 x.f3).wf = true) ∧ ((Lit.int .i64 x.f4).wf = true))))) := by
  have h : Opens Try.prog _ 45 _ := (opens_struct Try.underlying45 rfl (opensF_cons (by kernel_rfl) (opens_int Try.underlying3) (opensF_cons (by kernel_rfl) (opens_int Try.underlying3) (opensF_cons (by kernel_rfl) (opens_string Try.underlying9) (opensF_cons (by kernel_rfl) (opens_int Try.underlying3) (opensF_one (by kernel_rfl) (by kernel_rfl) (opens_int Try.underlying3)))))))
  exact opens_iso (f := fun x : S45 => (x.f0, x.f1, x.f2, x.f3, x.f4)) (fun y => ⟨y.1, y.2.1, y.2.2.1, y.2.2.2.1, y.2.2.2.2⟩) (fun _ => rfl) h
set_option maxHeartbeats 4000000 in
set_option maxRecDepth 100000 in
theorem lifted (os : Os) (started : os.Started) (H : Type) (enc : TypeId × Value → H) :
    ReturnsInHanded {} Try.checked os 7 .any (Rows.cursorNobodySpec.pre6 enc Try.prog Try.f7 Rows.cursorNobodyRow.domain false) (Rows.cursorNobodySpec.post enc Try.prog Try.f7 false true false false) := by
  refine returnsInHanded_of_change_sized (C := Try.checked) own started (by kernel_rfl) Try.func7
    (ChangeSpec.witness6 (enc := enc) (C := Try.checked) false ⟨#[], #[.agg #[.int .i64 0, .int .i64 0, .string ByteArray.empty, .int .i64 0, .int .i64 0]], []⟩ 8 (by kernel_rfl) (by kernel_rfl) (by kernel_rfl) (by kernel_rfl)) ?_
  intro W base args ds gs before hval0 hW hcnd hsz0 _
  have hsz : (DataW.weightsEach Try.prog (Try.f7.params.toList ++ Rows.cursorNobodySpec.plain.varTypes Try.prog) (ds ++ gs)).all (· ≤ reachBytes) = true := hsz0
  have hval : ∀ (j : Nat) t v, Try.f7.params[j]? = some t → args[j]? = some v → Value.okWide Try.prog W .any base t v := hval0
  have hW' := hW
  obtain ⟨p, q, hA0, hV, rfl, hfz, hnd⟩ := hW
  have hA : DataW.TrodAll enc Try.prog W 0 (fun _ => true) true Try.f7.params.toList args.toList ds p := hA0
  rw [Try.params7] at hA hval hsz
  obtain ⟨v0, vs0, d0, ds0, p0, q0, hargs, rfl, rfl, h0, r0⟩ := trodAll_cons hA
  obtain ⟨rfl, rfl, rfl⟩ := trodAll_nil r0
  obtain rfl : args = #[v0] := by cases args; simp_all
  obtain ⟨rfl, rfl⟩ := trodVars_none hV
  have t0 := h0
  have lt0 : ∀ x ∈ p0, x.block < W.heap.size := by obtain ⟨m, hm⟩ := t0; exact DataW.trod_lt m _ _ _ hm
  obtain ⟨y0, wf0, K0⟩ := opens_arg opens_k45 hsz (j := 0) (t := 45) rfl rfl h0
  have e0 := k45_open K0
  obtain rfl := agg_of (hval 0 45 v0 rfl rfl) (.inl ⟨_, Try.underlying45⟩) e0
  obtain ⟨w0_0, w0_1, w0_2, w0_3, w0_4⟩ := wf0
  clear hA0 hval0 hsz0 hsz
  refine (regimenlaw13_CursorNobody.walk Pure.CursorNobody y0.f0 y0.f1 y0.f2 y0.f3 y0.f4 W w0_0 w0_1 w0_2 w0_3 w0_4).mono fun e W' ⟨he, bel⟩ => ?_
  subst he
  exact ⟨_, rfl, _, _, _, [], _, [], hW', trodAll_mk1 (shut_bool Try.underlying4 _), (trodAll_cons_mk (Below.trod laidOut (by kernel_rfl) (of_decide_eq_true (by kernel_rfl)) t0 bel lt0) trodAll_mk0), rfl, bel.frame _, fun h => by cases h⟩
theorem over : Rows.cursorNobodyRow.holds Try.pinned (OpenSpec.ofChange Rows.cursorNobodySpec) :=
  OpenClaim.holds_of_wide 7 Try.f7 rfl rfl rfl rfl rfl rfl rfl ⟨rfl, rfl, rfl, rfl, rfl⟩ rfl rfl rfl rfl rfl (by kernel_rfl) Try.func7 (by kernel_rfl)
    (of_decide_eq_true (by kernel_rfl)) (by unfold Func.isWrapper; first | (rw [if_pos (by decide +kernel)]; kernel_rfl) | (rw [if_neg (by decide +kernel)]; exact ⟨rfl, rfl⟩))
    (fun os started H enc _ => lifted os started H enc)
theorem proved : Rows.CursorNobodySaid := over
end Go.Proofs.Ytnmmhfpekeeedaa.cursorNobody
namespace Go.Proofs.Ytnmmhfpekeeedaa
/-- The row, under a short name, for the claim. -/
theorem cursorNobody_holds : Rows.CursorNobodySaid := cursorNobody.proved
end Go.Proofs.Ytnmmhfpekeeedaa
