/- Any cut that took in any reading, which ones there may be, and any rate, are the reference's: for all values. -/
import Derived.Test.YtmakhhgfidgfdaaPGx12
import Derived.Test.YtmakhhgfidgfdaaPGx13
import Derived.Test.YtmakhhgfidgfdaaGPlat
namespace Go.Proofs.Ytmakhhgfidgfdaa.Pure
set_option linter.unusedVariables false
open Go.RowKit Go.Proofs.Ytmakhhgfidgfdaa.PG Go.Proofs.Ytmakhhgfidgfdaa.Num Go.Proofs.YtmakhhgfidgfdaaW.PrintWords Go.Proofs.YtmakhhgfidgfdaaW.PrintLast Go.Proofs.YtmakhhgfidgfdaaW.PrintMore

theorem awake31 : Ev (fun k => regimenlaw31_awake.f k) true := Ev.of (fun k => regimenlaw31_awake.mono k) (k := 80) (by decide +kernel)

theorem PlatTakes : regimenlaw31_PlatTakes.Pure := by
  intro h b q rest scale p0 s m factor patience cooldown p6 d x fl hb hq hr hs hss hf hp hc h6 hd hx hfl
  have hb : word b := i64_wf hb
  have hq : word q := i64_wf hq
  have hr : word rest := i64_wf hr
  have hs : word scale := i64_wf hs
  have hf : word factor := i64_wf hf
  have hd : word d := i64_wf hd
  have hx : word x := i64_wf hx
  refine Ev.rounds (r := true) ?_
  unfold regimenlaw31_PlatTakes.f
  refine Ev.bind (plat_take_ok h b q rest scale x p0 s m factor patience cooldown p6 d hb hx hd hr hs hf) ?_
  refine Ev.bind (ref_plat_take_ok h b q rest scale x p0 s m factor patience cooldown p6 d hb hq hx hd hr hs hf) ?_
  refine evp (by simp) ?_
  refine evp (by simp) ?_
  refine Ev.bind (check_ok h b q rest scale) ?_
  refine evs (may_ok h b q rest scale) ?_
  refine evp (by simp) ?_
  refine Ev.bind (rate_ok h b q rest scale x fl hx) ?_
  refine Ev.bind (ref_rate_ok h b q rest scale x fl hx) ?_
  refine evp rfl ?_
  exact Ev.bind awake31 (Ev.now _)
end Go.Proofs.Ytmakhhgfidgfdaa.Pure
