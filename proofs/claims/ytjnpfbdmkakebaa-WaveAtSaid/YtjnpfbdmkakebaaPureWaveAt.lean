/- Any part's wave, cosine and sine are the reference's: for all numbers. -/
import Derived.Test.YtjnpfbdmkakebaaPAx10
import Derived.Test.YtjnpfbdmkakebaaPAx20
import Derived.Test.YtjnpfbdmkakebaaWave
namespace Go.Proofs.Ytjnpfbdmkakebaa.Pure
set_option linter.unusedVariables false
open Go.RowKit Go.Proofs.Ytjnpfbdmkakebaa.PA Go.Proofs.Ytjnpfbdmkakebaa.Num Go.Proofs.YtjnpfbdmkakebaaW.PrintWords Go.Proofs.YtjnpfbdmkakebaaW.PrintLast Go.Proofs.YtjnpfbdmkakebaaW.PrintMore

theorem awake08 : Ev (fun k => regimenlaw08_awake.f k) true := Ev.of (fun k => regimenlaw08_awake.mono k) (k := 80) (by decide +kernel)

theorem cos_no {t : Int} (h : ¬ isPart t) : Ev (fun k => wave_Cos.f k t) (0, 1) := by
  unfold wave_Cos.f
  refine evs (wmay_no h) ?_
  refine evn (by simp) ?_
  exact Ev.now _
theorem sin_no {t : Int} (h : ¬ isPart t) : Ev (fun k => wave_Sin.f k t) (0, 1) := by
  unfold wave_Sin.f
  refine evs (wmay_no h) ?_
  refine evn (by simp) ?_
  exact Ev.now _
theorem at_no {t : Int} (h : ¬ isPart t) : Ev (fun k => wave_At.f k t) (0, 1) := by
  unfold wave_At.f
  refine Ev.bind (cos_no h) ?_
  refine evn (by simp) ?_
  exact Ev.now _

theorem WaveAt : regimenlaw08_WaveAt.Pure := by
  intro x hx
  have hx := i64_wf hx
  refine Ev.rounds (r := true) ?_
  unfold regimenlaw08_WaveAt.f
  by_cases hp : isPart x
  · have p0 := hp.1
    have p1 := hp.2
    refine Ev.bind (wave_At_ok hp) ?_
    refine Ev.bind (wave_Cos_ok hp) ?_
    refine Ev.bind (wave_Sin_ok hp) ?_
    refine evn (by omega) ?_
    rw [decide_eq_false (by omega)]
    refine Ev.step (fun k => by rw [regimenlaw08_WaveAt.j0]) ?_
    refine evn (by simp) ?_
    refine Ev.bind (ref_At_ok hp) ?_
    refine evp rfl ?_
    refine evp rfl ?_
    refine Ev.bind (ref_Cos_ok hp) ?_
    refine evp rfl ?_
    refine evp rfl ?_
    refine Ev.bind (ref_Sin_ok hp) ?_
    refine evp rfl ?_
    refine evp rfl ?_
    exact Ev.bind awake08 (Ev.now _)
  · refine Ev.bind (at_no hp) ?_
    refine Ev.bind (cos_no hp) ?_
    refine Ev.bind (sin_no hp) ?_
    have fin : Ev (fun k => regimenlaw08_WaveAt.j0 k x 0 1 0 1 0 1 true) true := by
      refine Ev.step (fun k => by rw [regimenlaw08_WaveAt.j0]) ?_
      refine evp rfl ?_
      refine evp rfl ?_
      refine evp rfl ?_
      refine evp rfl ?_
      refine evp rfl ?_
      refine evp rfl ?_
      refine evp rfl ?_
      exact Ev.bind awake08 (Ev.now _)
    by_cases c : x < 0
    · exact evp c fin
    · refine evn c ?_
      rw [decide_eq_true (by unfold isPart at hp; omega)]
      exact fin
end Go.Proofs.Ytjnpfbdmkakebaa.Pure
