/- Which count any text is; no other text is the same one's: for all texts. -/
import Derived.Test.YtbnkjchhbjbbnaaPAx0
import Derived.Test.YtbnkjchhbjbbnaaPAx2
import Derived.Test.YtbnkjchhbjbbnaaPAx4
import Derived.Test.YtbnkjchhbjbbnaaANumRef
namespace Go.Proofs.Ytbnkjchhbjbbnaa.Pure
set_option linter.unusedVariables false
open Go.RowKit Go.Proofs.Ytbnkjchhbjbbnaa.PA Go.Proofs.Ytbnkjchhbjbbnaa.Num Go.Proofs.YtbnkjchhbjbbnaaW.PrintWords Go.Proofs.YtbnkjchhbjbbnaaW.PrintLast Go.Proofs.YtbnkjchhbjbbnaaW.PrintMore

theorem awake01b : Ev (fun k => regimenlaw01_awake.f k) true := Ev.of (fun k => regimenlaw01_awake.mono k) (k := 80) (by decide +kernel)

theorem NumGets : regimenlaw01_NumGets.Pure := by
  intro s hs
  refine Ev.rounds (r := true) ?_
  unfold regimenlaw01_NumGets.f
  by_cases c : (s.size : Int) > 200
  · refine evp c ?_
    exact Ev.bind awake01b (Ev.now _)
  · refine evn c ?_
    refine Ev.bind (get_ok s (by omega)) ?_
    refine Ev.bind (ref_get_ok s (by omega)) ?_
    refine evp rfl ?_
    refine Ev.step (fun k => by rw [regimenlaw01_NumGets.j0]) ?_
    refine evn (by simp) ?_
    by_cases z : (getv (numsOf s)).2 = 0
    · obtain ⟨_, e, h1, h0, hd⟩ := get_back z
      refine evp z ?_
      rw [e]
      refine Ev.bind (text_ok h0 (by omega)) ?_
      rw [hd, str_nums]
      refine evp rfl ?_
      exact Ev.bind awake01b (Ev.now _)
    · refine evn z ?_
      exact Ev.bind awake01b (Ev.now _)
end Go.Proofs.Ytbnkjchhbjbbnaa.Pure
