/- For every input that can be read as data, the law PlatFalls answers true, and its arguments read behind the call as they did before it: no condition beyond what the given statement itself says. -/
import Derived.Test.YtmakhhgfidgfdaaRows
import Derived.Test.YtmakhhgfidgfdaaPHx12
import Derived.Test.YtmakhhgfidgfdaaPurePlatFalls
import Derived.Test.YtmakhhgfidgfdaaHOpens
import Derived.WalkKit
import Derived.ProofKit
import Derived.OpenShut
import Derived.ShutString
import Derived.ChangeOld
import Derived.Below
import Derived.SizedLaws
namespace Go.Proofs.Ytmakhhgfidgfdaa.platFalls
open Go.ChangeShapes Go.WideShapes Go.ChangeAt Go.RowKit Go.Proofs.Ytmakhhgfidgfdaa.PH Go.Proofs.Ytmakhhgfidgfdaa.Opn Go.Proofs.YtmakhhgfidgfdaaW.PrintWords
open Go.ChangeMaps (open_string shut_string)
set_option linter.unusedVariables false
theorem own : ownKnob Try.prog.godebug = none := by kernel_rfl
theorem laidOut : laidOutB Try.prog = true := by kernel_rfl
theorem opens_k75 : Opens Try.prog k75 75 (fun x => (True) ∧ ((x.f1.size ≤ 140737488351232) ∧ ((True) ∧ (((Lit.int .i64 x.f3).wf = true) ∧ (((Lit.int .i64 x.f4).wf = true) ∧ (((Lit.int .i64 x.f5).wf = true) ∧ (((Lit.int .i64 x.f6).wf = true) ∧ ((Lit.int .i64 x.f7).wf = true)))))))) := by
  have h : Opens Try.prog _ 75 _ := (opens_struct Try.underlying75 rfl (opensF_cons (by kernel_rfl) (opens_bool Try.underlying4) (opensF_cons (by kernel_rfl) (opens_string Try.underlying9) (opensF_cons (by kernel_rfl) (opens_bool Try.underlying4) (opensF_cons (by kernel_rfl) (opens_int Try.underlying3) (opensF_cons (by kernel_rfl) (opens_int Try.underlying3) (opensF_cons (by kernel_rfl) (opens_int Try.underlying3) (opensF_cons (by kernel_rfl) (opens_int Try.underlying3) (opensF_one (by kernel_rfl) (by kernel_rfl) (opens_int Try.underlying3))))))))))
  exact opens_iso (f := fun x : S75 => (x.f0, x.f1, x.f2, x.f3, x.f4, x.f5, x.f6, x.f7)) (fun y => ⟨y.1, y.2.1, y.2.2.1, y.2.2.2.1, y.2.2.2.2.1, y.2.2.2.2.2.1, y.2.2.2.2.2.2.1, y.2.2.2.2.2.2.2⟩) (fun _ => rfl) h
set_option maxHeartbeats 4000000 in
set_option maxRecDepth 100000 in
theorem lifted (os : Os) (started : os.Started) (H : Type) (enc : TypeId × Value → H) :
    ReturnsInHanded {} Try.checked os 12 .any (Rows.platFallsSpec.pre6 enc Try.prog Try.f12 Rows.platFallsRow.domain false) (Rows.platFallsSpec.post enc Try.prog Try.f12 false true false false) := by
  refine returnsInHanded_of_change_sized (C := Try.checked) own started (by kernel_rfl) Try.func12
    (ChangeSpec.witness6 (enc := enc) (C := Try.checked) false ⟨#[], #[.slice none 0 0, .agg #[.bool false, .string ByteArray.empty, .bool false, .int .i64 0, .int .i64 0, .int .i64 0, .int .i64 0, .int .i64 0]], []⟩ 8 (by kernel_rfl) (by kernel_rfl) (by kernel_rfl) (by kernel_rfl)) ?_
  intro W base args ds gs before hval0 hW hcnd hsz0 _
  have hsz : (DataW.weightsEach Try.prog (Try.f12.params.toList ++ Rows.platFallsSpec.plain.varTypes Try.prog) (ds ++ gs)).all (· ≤ reachBytes) = true := hsz0
  have hval : ∀ (j : Nat) t v, Try.f12.params[j]? = some t → args[j]? = some v → Value.okWide Try.prog W .any base t v := hval0
  have hW' := hW
  obtain ⟨p, q, hA0, hV, rfl, hfz, hnd⟩ := hW
  have hA : DataW.TrodAll enc Try.prog W 0 (fun _ => true) true Try.f12.params.toList args.toList ds p := hA0
  rw [Try.params12] at hA hval hsz
  obtain ⟨v0, vs0, d0, ds0, p0, q0, hargs, rfl, rfl, h0, r0⟩ := trodAll_cons hA
  obtain ⟨v1, vs1, d1, ds1, p1, q1, rfl, rfl, rfl, h1, r1⟩ := trodAll_cons r0
  obtain ⟨rfl, rfl, rfl⟩ := trodAll_nil r1
  obtain rfl : args = #[v0, v1] := by cases args; simp_all
  obtain ⟨rfl, rfl⟩ := trodVars_none hV
  have t0 := h0
  have lt0 : ∀ x ∈ p0, x.block < W.heap.size := by obtain ⟨m, hm⟩ := t0; exact DataW.trod_lt m _ _ _ hm
  obtain ⟨y0, wf0, K0⟩ := opens_arg (opens_slice (B := 8) Try.underlying22 (opens_int Try.underlying3) (by kernel_rfl) (by kernel_rfl)) hsz (j := 0) (t := 22) rfl rfl h0
  obtain ⟨sa0, sn0, sc0, rfl⟩ := okWide_slice Try.underlying22 (hval 0 22 v0 rfl rfl)
  obtain ⟨A0, c0, e0, hc0, hr0⟩ := K0
  have e0' : sa0 = A0 ∧ sn0 = y0.length ∧ sc0 = c0 := by simpa [Value.cells] using e0
  obtain ⟨rfl, rfl, rfl⟩ : A0 = sa0 ∧ y0.length = sn0 ∧ c0 = sc0 := ⟨e0'.1.symm, e0'.2.1.symm, e0'.2.2.symm⟩
  clear e0'
  have t1 := h1
  have lt1 : ∀ x ∈ p1, x.block < W.heap.size := by obtain ⟨m, hm⟩ := t1; exact DataW.trod_lt m _ _ _ hm
  obtain ⟨y1, wf1, K1⟩ := opens_arg opens_k75 hsz (j := 1) (t := 75) rfl rfl h1
  have e1 := k75_open K1
  obtain rfl := agg_of (hval 1 75 v1 rfl rfl) (.inl ⟨_, Try.underlying75⟩) e1
  obtain ⟨_, w1_1, _, w1_3, w1_4, w1_5, w1_6, w1_7⟩ := wf1
  clear hA0 hval0 hsz0 hsz
  refine (regimenlaw31_PlatFalls.walk Pure.PlatFalls A0 c0 y0 y1.f0 y1.f1 y1.f2 y1.f3 y1.f4 y1.f5 y1.f6 y1.f7 W hr0 hc0 wf0  w1_1  w1_3 w1_4 w1_5 w1_6 w1_7).mono fun e W' ⟨he, bel⟩ => ?_
  subst he
  exact ⟨_, rfl, _, _, _, [], _, [], hW', trodAll_mk1 (shut_bool Try.underlying4 _), (trodAll_cons_mk (Below.trod laidOut (by kernel_rfl) (of_decide_eq_true (by kernel_rfl)) t0 bel lt0) (trodAll_cons_mk (Below.trod laidOut (by kernel_rfl) (of_decide_eq_true (by kernel_rfl)) t1 bel lt1) trodAll_mk0)), rfl, bel.frame _, fun h => by cases h⟩
theorem over : Rows.platFallsRow.holds Try.pinned (OpenSpec.ofChange Rows.platFallsSpec) :=
  OpenClaim.holds_of_wide 12 Try.f12 rfl rfl rfl rfl rfl rfl rfl ⟨rfl, rfl, rfl, rfl, rfl⟩ rfl rfl rfl rfl rfl (by kernel_rfl) Try.func12 (by kernel_rfl)
    (of_decide_eq_true (by kernel_rfl)) (by unfold Func.isWrapper; first | (rw [if_pos (by decide +kernel)]; kernel_rfl) | (rw [if_neg (by decide +kernel)]; exact ⟨rfl, rfl⟩))
    (fun os started H enc _ => lifted os started H enc)
theorem proved : Rows.PlatFallsSaid := over
end Go.Proofs.Ytmakhhgfidgfdaa.platFalls
namespace Go.Proofs.Ytmakhhgfidgfdaa
/-- The row, under a short name, for the claim. -/
theorem platFalls_holds : Rows.PlatFallsSaid := platFalls.proved
end Go.Proofs.Ytmakhhgfidgfdaa
