/- Which lengths there may be, and how many steps any one is: for all numbers. -/
import Derived.Test.YtnmmhfpekeeedaaPLx11
import Derived.Test.YtnmmhfpekeeedaaPLx18
import Derived.Test.YtnmmhfpekeeedaaLLength
namespace Go.Proofs.Ytnmmhfpekeeedaa.Pure
set_option linter.unusedVariables false
open Go.RowKit Go.Proofs.Ytnmmhfpekeeedaa.PL Go.Proofs.Ytnmmhfpekeeedaa.Num Go.Proofs.YtnmmhfpekeeedaaW.PrintWords Go.Proofs.YtnmmhfpekeeedaaW.PrintMore

theorem awake14 : Ev (fun k => regimenlaw14_awake.f k) true := Ev.of (fun k => regimenlaw14_awake.mono k) (k := 200) (by decide +kernel)
theorem LengthSteps : regimenlaw14_LengthSteps.Pure := by
  intro u n s ep hu hn hs hp
  refine Ev.rounds (r := true) ?_
  unfold regimenlaw14_LengthSteps.f
  refine Ev.bind (steps_ok14 u n s ep) ?_
  refine Ev.bind (within14_ok u n s ep) ?_
  refine evs (may_ok14 u n) ?_
  refine Ev.bind (check_ok14 u n) ?_
  refine evn ?_ ?_
  · by_cases m : mayL u n
    · rw [if_pos m, decide_eq_true m]
      decide
    · rw [if_neg m, decide_eq_false m]
      decide
  refine Ev.bind (check_ok14 u n) ?_
  have e : (((if mayL u n then 0 else 1 : Int) == 1) == decide (mayL u n)) = false := by
    by_cases m : mayL u n
    · rw [if_pos m, decide_eq_true m]
      decide
    · rw [if_neg m, decide_eq_false m]
      decide
  rw [e]
  have hG : goodL u n s ep ↔ mayL u n ∧ (0 ≤ s ∧ s ≤ 1048576) ∧ (0 ≤ ep ∧ ep ≤ 1048576) := Iff.rfl
  have j1 : ∀ d : Bool, (d = true ↔ ¬ goodL u n s ep) → Ev (fun k => regimenlaw14_LengthSteps.j1 k s ep (if goodL u n s ep then stepsV u n s ep else (0, 1)).1 (if goodL u n s ep then stepsV u n s ep else (0, 1)).2 (if goodL u n s ep then (if (stepsV u n s ep).2 = 0 then mn (stepsV u n s ep).1 s else s) else 0) d u n) true := by
    intro d hd
    refine Ev.step (fun k => by rw [regimenlaw14_LengthSteps.j1]) ?_
    by_cases g : goodL u n s ep
    · have e1 : (if goodL u n s ep then stepsV u n s ep else (0, 1)) = stepsV u n s ep := if_pos g
      have e2 : (if goodL u n s ep then (if (stepsV u n s ep).2 = 0 then mn (stepsV u n s ep).1 s else s) else 0) = (if (stepsV u n s ep).2 = 0 then mn (stepsV u n s ep).1 s else s) := if_pos g
      rw [e1, e2]
      refine evn (fun z => (hd.1 z) g) ?_
      refine Ev.bind (ref_steps14 u n s ep g) ?_
      refine evp rfl ?_
      refine evp rfl ?_
      refine Ev.bind (ref_within14 u n s ep g) ?_
      refine evp rfl ?_
      exact Ev.bind awake14 (Ev.now _)
    · have e1 : (if goodL u n s ep then stepsV u n s ep else (0, 1)) = (0, 1) := if_neg g
      have e2 : (if goodL u n s ep then (if (stepsV u n s ep).2 = 0 then mn (stepsV u n s ep).1 s else s) else 0) = 0 := if_neg g
      rw [e1, e2]
      refine evp (hd.2 g) ?_
      refine evp rfl ?_
      refine evp rfl ?_
      refine evp rfl ?_
      exact Ev.bind awake14 (Ev.now _)
  refine Ev.step (fun k => by rw [regimenlaw14_LengthSteps.j0]) ?_
  refine evn (by decide) ?_
  by_cases m : mayL u n
  · refine evp (decide_eq_true m) ?_
    by_cases a : s < 0
    · refine evp a (j1 true ?_)
      rw [hG]
      exact ⟨fun _ z => by omega, fun _ => rfl⟩
    · refine evn a ?_
      by_cases b : s > 1048576
      · refine evp b (j1 true ?_)
        rw [hG]
        exact ⟨fun _ z => by omega, fun _ => rfl⟩
      · refine evn b ?_
        by_cases c : ep < 0
        · refine evp c (j1 true ?_)
          rw [hG]
          exact ⟨fun _ z => by omega, fun _ => rfl⟩
        · refine evn c (j1 _ ?_)
          rw [hG, decide_eq_true_iff]
          constructor
          · intro z w
            omega
          · intro z
            by_cases q : ep > 1048576
            · exact q
            · exact absurd ⟨m, ⟨by omega, by omega⟩, by omega, by omega⟩ z
  · refine evn (by simpa using m) (j1 true ?_)
    rw [hG]
    exact ⟨fun _ z => m z.1, fun _ => rfl⟩
end Go.Proofs.Ytnmmhfpekeeedaa.Pure
