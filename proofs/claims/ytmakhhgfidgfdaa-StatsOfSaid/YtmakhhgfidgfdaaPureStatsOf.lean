/- What any numbers come to, and their sum, are the reference's; the mean is between the least and the greatest: for all numbers. -/
import Derived.Test.YtmakhhgfidgfdaaPFx5
import Derived.Test.YtmakhhgfidgfdaaPFx11
import Derived.Test.YtmakhhgfidgfdaaFStats
namespace Go.Proofs.Ytmakhhgfidgfdaa.Pure
set_option linter.unusedVariables false
open Go.RowKit Go.Proofs.Ytmakhhgfidgfdaa.PF Go.Proofs.Ytmakhhgfidgfdaa.Num Go.Proofs.YtmakhhgfidgfdaaW.PrintWords Go.Proofs.YtmakhhgfidgfdaaW.PrintLast Go.Proofs.YtmakhhgfidgfdaaW.PrintMore

theorem awake49 : Ev (fun k => regimenlaw49_awake.f k) true := Ev.of (fun k => regimenlaw49_awake.mono k) (k := 80) (by decide +kernel)

theorem StatsOf : regimenlaw49_StatsOf.Pure := by
  intro l hl
  have hlw : ∀ x, x ∈ l → word' x := fun x h => i64_wf (hl.2.2 x h)
  refine Ev.rounds (r := true) ?_
  unfold regimenlaw49_StatsOf.f
  by_cases c : (l.length : Int) > 60
  · refine evp c ?_
    exact Ev.bind awake49 (Ev.now _)
  refine evn c ?_
  obtain ⟨s, hs, ds, vs, ls⟩ := ref_sum_ok l hlw (by omega)
  have md := mod_ok s ds
  rw [vs] at md
  by_cases z : (l.length : Int) = 0
  · have no : Ev (fun k => stats_Of.f k l) (0, 0, 0, 0, 0, 8) := by
      unfold stats_Of.f
      refine evn (by omega) ?_
      exact evp z (Ev.now _)
    refine Ev.bind no ?_
    refine Ev.bind (stats_sum_ok l hlw (by omega)) ?_
    refine Ev.bind hs ?_
    refine Ev.bind md ?_
    refine evn (by simp [sum2]) ?_
    refine Ev.step (fun k => by rw [regimenlaw49_StatsOf.j0]) ?_
    refine evn (by simp [sum2]) ?_
    refine evp z ?_
    refine evp (by simp) ?_
    refine evp rfl ?_
    exact Ev.bind awake49 (Ev.now _)
  · have w := stat_within l hlw (by omega)
    refine Ev.bind (of_ok' l hlw (by omega) (by omega)) ?_
    refine Ev.bind (stats_sum_ok l hlw (by omega)) ?_
    refine Ev.bind hs ?_
    refine Ev.bind md ?_
    refine evn (by simp [sum2]) ?_
    refine Ev.step (fun k => by rw [regimenlaw49_StatsOf.j0]) ?_
    refine evn (by simp [sum2]) ?_
    refine evn z ?_
    refine Ev.bind (ref_of_ok l hlw (by omega) (by omega)) ?_
    refine evp (by simp) ?_
    refine evp rfl ?_
    refine evs (within_ok (.inl w)) ?_
    refine evp rfl ?_
    exact Ev.bind awake49 (Ev.now _)
end Go.Proofs.Ytmakhhgfidgfdaa.Pure
