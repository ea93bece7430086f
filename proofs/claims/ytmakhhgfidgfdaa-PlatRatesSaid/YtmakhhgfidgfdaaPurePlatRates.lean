/- A rate of a value of 0 on is neither above it nor below the lesser one of it and the floor: for all values. -/
import Derived.Test.YtmakhhgfidgfdaaPGx12
import Derived.Test.YtmakhhgfidgfdaaPGx15
import Derived.Test.YtmakhhgfidgfdaaGPlat
namespace Go.Proofs.Ytmakhhgfidgfdaa.Pure
set_option linter.unusedVariables false
open Go.RowKit Go.Proofs.Ytmakhhgfidgfdaa.PG Go.Proofs.Ytmakhhgfidgfdaa.Num Go.Proofs.YtmakhhgfidgfdaaW.PrintWords Go.Proofs.YtmakhhgfidgfdaaW.PrintLast Go.Proofs.YtmakhhgfidgfdaaW.PrintMore

theorem awake31c : Ev (fun k => regimenlaw31_awake.f k) true := Ev.of (fun k => regimenlaw31_awake.mono k) (k := 80) (by decide +kernel)

theorem PlatRates : regimenlaw31_PlatRates.Pure := by
  intro h b q rest scale v fl hb hq hr hs hv hf
  have hv : word v := i64_wf hv
  refine Ev.rounds (r := true) ?_
  have fin : Ev (fun k => regimenlaw31_PlatRates.j0 k v fl true h b q rest scale) true := by
    refine Ev.step (fun k => by rw [regimenlaw31_PlatRates.j0]) ?_
    refine evp rfl ?_
    exact Ev.bind awake31c (Ev.now _)
  unfold regimenlaw31_PlatRates.f
  by_cases c1 : v < 0
  · exact evp c1 fin
  · refine evn c1 ?_
    by_cases c2 : scale < 0
    · exact evp c2 fin
    · refine evn c2 ?_
      by_cases c3 : scale > 4294967296
      · rw [decide_eq_true c3]
        exact fin
      · rw [decide_eq_false c3]
        refine Ev.step (fun k => by rw [regimenlaw31_PlatRates.j0]) ?_
        refine evn (by simp) ?_
        refine Ev.bind (rate_ok h b q rest scale v fl hv) ?_
        have e : ratev scale v fl = mx (fmul v scale).1 (mn v fl) := if_neg (by omega)
        obtain ⟨u, u0, u1, u2, _⟩ := fmul_part hv (z := scale) (by omega) (by omega)
        rw [if_neg c1] at u2
        rw [show iabs v = v from if_neg c1] at u1
        rw [u2] at e
        rw [e]
        have up : mx u (mn v fl) ≤ v := by
          unfold mx mn
          split <;> split <;> omega
        refine evp up ?_
        by_cases g : mx u (mn v fl) ≥ v
        · refine evp g ?_
          exact Ev.bind awake31c (Ev.now _)
        · refine evn g ?_
          refine evp (by
            unfold mx mn at *
            split <;> split at g <;> omega) ?_
          exact Ev.bind awake31c (Ev.now _)
end Go.Proofs.Ytmakhhgfidgfdaa.Pure
