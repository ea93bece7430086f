/- What lies between is neither less than both nor greater; a by 0, b by One; by a greater part it is not farther from b: for all numbers and parts. -/
import Derived.Test.YtjnpfbdmkakebaaPAx4
import Derived.Test.YtjnpfbdmkakebaaPAx13
import Derived.Test.YtjnpfbdmkakebaaLerp
namespace Go.Proofs.Ytjnpfbdmkakebaa.Pure
set_option linter.unusedVariables false
open Go.RowKit Go.Proofs.Ytjnpfbdmkakebaa.PA Go.Proofs.Ytjnpfbdmkakebaa.Num Go.Proofs.YtjnpfbdmkakebaaW.PrintWords Go.Proofs.YtjnpfbdmkakebaaW.PrintLast Go.Proofs.YtjnpfbdmkakebaaW.PrintMore

theorem awake07c : Ev (fun k => regimenlaw07_awake.f k) true := Ev.of (fun k => regimenlaw07_awake.mono k) (k := 80) (by decide +kernel)

theorem within_ok {x a b : Int} (h : (a ≤ x ∧ x ≤ b) ∨ (b ≤ x ∧ x ≤ a)) : lerp_Within.f x a b = some true := by
  unfold lerp_Within.f mn mx
  rw [if_pos (by split <;> omega), decide_eq_true (by split <;> omega)]

theorem LerpBetween : regimenlaw07_LerpBetween.Pure := by
  intro a b t u ha hb ht hu
  have ha := i64_wf ha
  have hb := i64_wf hb
  have ht := i64_wf ht
  have hu := i64_wf hu
  refine Ev.rounds (r := true) ?_
  unfold regimenlaw07_LerpBetween.f
  have fin : Ev (fun k => regimenlaw07_LerpBetween.j0 k a b true t u) true := by
    refine Ev.step (fun k => by rw [regimenlaw07_LerpBetween.j0]) ?_
    refine evp rfl ?_
    exact Ev.bind awake07c (Ev.now _)
  by_cases c1 : t < 0
  · exact evp c1 fin
  · refine evn c1 ?_
    by_cases c2 : t > u
    · exact evp c2 fin
    · refine evn c2 ?_
      by_cases c3 : u > 4294967296
      · rw [decide_eq_true c3]
        exact fin
      · rw [decide_eq_false c3]
        have r1 := lat_range (a := a) (b := b) (t := t) (by omega) (by omega)
        have r2 := lat_range (a := a) (b := b) (t := u) (by omega) (by omega)
        have m := lat_mono (a := a) (b := b) (t := t) (u := u) (by omega)
        have k1 := lerp_at_ok (t := t) ha hb (by omega) (by omega)
        have k2 := lerp_at_ok (t := u) ha hb (by omega) (by omega)
        have k3 := lerp_at_ok (t := 0) ha hb (by omega) (by omega)
        have k4 := lerp_at_ok (t := 4294967296) ha hb (by omega) (by omega)
        rw [lat_zero] at k3
        rw [lat_one] at k4
        generalize lat a b t = x at *
        generalize lat a b u = y at *
        refine Ev.step (fun k => by rw [regimenlaw07_LerpBetween.j0]) ?_
        refine evn (by simp) ?_
        refine Ev.bind k1 ?_
        refine Ev.bind k2 ?_
        refine Ev.bind k3 ?_
        refine Ev.bind k4 ?_
        refine evp rfl ?_
        refine evp rfl ?_
        refine evp rfl ?_
        refine evp rfl ?_
        refine evp rfl ?_
        refine evp rfl ?_
        refine evs (within_ok (by omega)) ?_
        refine evp rfl ?_
        refine evs (within_ok (by omega)) ?_
        refine evp rfl ?_
        have fin2 : Ev (fun k => (regimenlaw07_awake.f k).bind fun t334 => some t334) true := Ev.bind awake07c (Ev.now _)
        by_cases g : a ≤ b
        · have g1 := r1.1 g
          have g2 := r2.1 g
          have g3 := m.1 g
          refine evp (show x ≥ a by omega) ?_
          refine evp (show x ≤ b by omega) ?_
          refine evp g ?_
          exact evp g3 fin2
        · have g1 := r1.2 (by omega)
          have g2 := r2.2 (by omega)
          have g3 := m.2 g
          by_cases e : x ≥ a
          · refine evp e ?_
            refine evn (show ¬ x ≤ b by omega) ?_
            refine evp (show x ≥ b by omega) ?_
            refine evp (show x ≤ a by omega) ?_
            refine evn g ?_
            refine evp (show a ≥ b by omega) ?_
            exact evp (show x ≥ y by omega) fin2
          · refine evn e ?_
            refine evp (show x ≥ b by omega) ?_
            refine evp (show x ≤ a by omega) ?_
            refine evn g ?_
            refine evp (show a ≥ b by omega) ?_
            exact evp (show x ≥ y by omega) fin2
end Go.Proofs.Ytjnpfbdmkakebaa.Pure
