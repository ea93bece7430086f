/- A part's wave is a part and with the other part's wave One together; cosines and sines are not beyond One: for all numbers. -/
import Derived.Test.YtjnpfbdmkakebaaPAx10
import Derived.Test.YtjnpfbdmkakebaaPAx21
import Derived.Test.YtjnpfbdmkakebaaWave
namespace Go.Proofs.Ytjnpfbdmkakebaa.Pure
set_option linter.unusedVariables false
open Go.RowKit Go.Proofs.Ytjnpfbdmkakebaa.PA Go.Proofs.Ytjnpfbdmkakebaa.Num Go.Proofs.YtjnpfbdmkakebaaW.PrintWords Go.Proofs.YtjnpfbdmkakebaaW.PrintLast Go.Proofs.YtjnpfbdmkakebaaW.PrintMore

theorem awake08b : Ev (fun k => regimenlaw08_awake.f k) true := Ev.of (fun k => regimenlaw08_awake.mono k) (k := 80) (by decide +kernel)

theorem low_mid : low 2147483648 = 0 := by decide +kernel
theorem wav_sum {t : Int} (h : isPart t) : wav t + wav (4294967296 - t) = 4294967296 := by
  have h0 := h.1
  have h1 := h.2
  unfold wav
  by_cases c : t > 2147483648
  · rw [if_pos c, if_neg (by omega)]
    omega
  · rw [if_neg c]
    by_cases d : 4294967296 - t > 2147483648
    · rw [if_pos d, show 4294967296 - (4294967296 - t) = t from by omega]
      omega
    · rw [if_neg d, show 4294967296 - t = 2147483648 from by omega, show t = 2147483648 from by omega, low_mid]
      decide
theorem wav_part {t : Int} (h : isPart t) : isPart (wav t) := by
  have h0 := h.1
  have h1 := h.2
  unfold wav
  by_cases c : t > 2147483648
  · rw [if_pos c]
    have l := low_part (t := 4294967296 - t) (by omega) (by omega)
    have l0 := l.1
    have l1 := l.2
    constructor <;> omega
  · rw [if_neg c]
    have l := low_part (t := t) (by omega) (by omega)
    have l0 := l.1
    have l1 := l.2
    constructor <;> omega
theorem sinv_part {t : Int} (h : isPart t) : isPart (sinv t) := by
  have h0 := h.1
  have h1 := h.2
  unfold sinv
  by_cases c : t > 2147483648
  · rw [if_pos c]
    exact low_part (by omega) (by omega)
  · rw [if_neg c]
    exact low_part (by omega) (by omega)
theorem cosv_in {t : Int} (h : isPart t) : -4294967296 ≤ cosv t ∧ cosv t ≤ 4294967296 := by
  have h0 := h.1
  have h1 := h.2
  unfold cosv
  by_cases c : t > 2147483648
  · rw [if_pos c]
    have l := low_part (t := 4294967296 - t) (by omega) (by omega)
    have l0 := l.1
    have l1 := l.2
    constructor <;> omega
  · rw [if_neg c]
    have l := low_part (t := t) (by omega) (by omega)
    have l0 := l.1
    have l1 := l.2
    constructor <;> omega

theorem WaveParts : regimenlaw08_WaveParts.Pure := by
  intro x hx
  have hx := i64_wf hx
  refine Ev.rounds (r := true) ?_
  unfold regimenlaw08_WaveParts.f
  have fin : Ev (fun k => regimenlaw08_WaveParts.j0 k x true) true := by
    refine Ev.step (fun k => by rw [regimenlaw08_WaveParts.j0]) ?_
    refine evp rfl ?_
    exact Ev.bind awake08b (Ev.now _)
  by_cases hp : isPart x
  · have p0 := hp.1
    have p1 := hp.2
    have hq : isPart (4294967296 - x) := ⟨by omega, by omega⟩
    have a := wav_part hp
    have a0 := a.1
    have a1 := a.2
    have s := sinv_part hp
    have c := cosv_in hp
    have e := wav_sum hp
    refine evn (by omega) ?_
    rw [decide_eq_false (by omega)]
    refine Ev.step (fun k => by rw [regimenlaw08_WaveParts.j0]) ?_
    refine evn (by simp) ?_
    rw [w64_id (x := 4294967296 - x) (by omega) (by omega)]
    refine Ev.bind (wave_At_ok hp) ?_
    refine Ev.bind (wave_At_ok hq) ?_
    refine Ev.bind (wave_Cos_ok hp) ?_
    refine Ev.bind (wave_Sin_ok hp) ?_
    refine evp rfl ?_
    refine evp rfl ?_
    refine evp rfl ?_
    refine evp rfl ?_
    refine evp a0 ?_
    refine evp a1 ?_
    rw [show wrap64 ((wav x, (0 : Int)).1 + (wav (4294967296 - x), (0 : Int)).1) = 4294967296 from by rw [show (wav x, (0 : Int)).1 + (wav (4294967296 - x), (0 : Int)).1 = 4294967296 from e]; exact w64_id (by omega) (by omega)]
    refine evp rfl ?_
    refine evp c.1 ?_
    refine evp c.2 ?_
    refine evp s.1 ?_
    refine evp s.2 ?_
    exact Ev.bind awake08b (Ev.now _)
  · by_cases c : x < 0
    · exact evp c fin
    · refine evn c ?_
      rw [decide_eq_true (by unfold isPart at hp; omega)]
      exact fin
end Go.Proofs.Ytjnpfbdmkakebaa.Pure
