/- What lies between any two numbers, by any part, is as the reference has it: for all numbers. -/
import Derived.Test.YtjnpfbdmkakebaaPAx4
import Derived.Test.YtjnpfbdmkakebaaPAx12
import Derived.Test.YtjnpfbdmkakebaaLerp
namespace Go.Proofs.Ytjnpfbdmkakebaa.Pure
set_option linter.unusedVariables false
open Go.RowKit Go.Proofs.Ytjnpfbdmkakebaa.PA Go.Proofs.Ytjnpfbdmkakebaa.Num Go.Proofs.YtjnpfbdmkakebaaW.PrintWords Go.Proofs.YtjnpfbdmkakebaaW.PrintLast

theorem awake07a : Ev (fun k => regimenlaw07_awake.f k) true := Ev.of (fun k => regimenlaw07_awake.mono k) (k := 80) (by decide +kernel)

theorem LerpAt : regimenlaw07_LerpAt.Pure := by
  intro a b t ha hb ht
  have ha := i64_wf ha
  have hb := i64_wf hb
  have ht := i64_wf ht
  refine Ev.rounds (r := true) ?_
  unfold regimenlaw07_LerpAt.f
  by_cases c : t < 0 ∨ t > 4294967296
  · refine Ev.bind (lerp_at_no c) ?_
    have fin : Ev (fun k => regimenlaw07_LerpAt.j0 k a b t 0 1 true) true := by
      refine Ev.step (fun k => by rw [regimenlaw07_LerpAt.j0]) ?_
      refine evp rfl ?_
      refine evp rfl ?_
      refine evp rfl ?_
      exact Ev.bind awake07a (Ev.now _)
    by_cases d : t < 0
    · exact evp d fin
    · refine evn d ?_
      rw [decide_eq_true (by omega)]
      exact fin
  · refine Ev.bind (lerp_at_ok ha hb (by omega) (by omega)) ?_
    refine evn (by omega) ?_
    rw [decide_eq_false (by omega)]
    refine Ev.step (fun k => by rw [regimenlaw07_LerpAt.j0]) ?_
    refine evn (by simp) ?_
    refine Ev.bind (ref_at_ok ha hb (by omega) (by omega)) ?_
    refine evp rfl ?_
    refine evp rfl ?_
    exact Ev.bind awake07a (Ev.now _)
end Go.Proofs.Ytjnpfbdmkakebaa.Pure
