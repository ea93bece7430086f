/- Which event any line is, and that no other line is the same one's: for all lines. -/
import Derived.Test.YtcgdhpnobgimfaaPEx0
import Derived.Test.YtcgdhpnobgimfaaPEx5
import Derived.Test.YtcgdhpnobgimfaaPEx8
import Derived.Test.YtcgdhpnobgimfaaEEvents
namespace Go.Proofs.Ytcgdhpnobgimfaa.Pure
set_option linter.unusedVariables false
open Go.RowKit Go.Proofs.Ytcgdhpnobgimfaa.PE Go.Proofs.Ytcgdhpnobgimfaa.Num Go.Proofs.YtcgdhpnobgimfaaW.PrintWords Go.Proofs.YtcgdhpnobgimfaaW.PrintLast Go.Proofs.YtcgdhpnobgimfaaW.PrintMore

theorem awake36b : Ev (fun k => regimenlaw36_awake.f k) true := Ev.of (fun k => regimenlaw36_awake.mono k) (k := 80) (by decide +kernel)

theorem EventsParses : regimenlaw36_EventsParses.Pure := by
  intro s b hs hb
  refine Ev.rounds (r := true) ?_
  unfold regimenlaw36_EventsParses.f
  by_cases c : (b.size : Int) > 100
  · refine evp c ?_
    exact Ev.bind awake36b (Ev.now _)
  · refine evn c ?_
    refine Ev.bind (parse_ok s b (by omega)) ?_
    refine Ev.bind (ref_parse_ok s b (by omega)) ?_
    refine evp (by simp) ?_
    refine evp (by simp) ?_
    by_cases d : (parsed s (numsOf b) 11 1).2.2.2 = true
    · refine evp d ?_
      have p := parsed_back d
      refine Ev.bind (ref_line_ok _ _ (n := (parsed s (numsOf b) 11 1).2.2.1) (by omega)) ?_
      rw [p.1]
      refine evp rfl ?_
      exact Ev.bind awake36b (Ev.now _)
    · refine evn d ?_
      exact Ev.bind awake36b (Ev.now _)
end Go.Proofs.Ytcgdhpnobgimfaa.Pure
