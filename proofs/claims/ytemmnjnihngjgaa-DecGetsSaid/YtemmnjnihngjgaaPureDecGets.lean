/- Any text up to 60 bytes is read as the number that the document says, or refused as it says; so many digits stand behind its point. -/
import Derived.Test.YtemmnjnihngjgaaPDx0
import Derived.Test.YtemmnjnihngjgaaPDx6
import Derived.Test.YtemmnjnihngjgaaPDx12
import Derived.Test.YtemmnjnihngjgaaDDecR
namespace Go.Proofs.Ytemmnjnihngjgaa.Pure
set_option linter.unusedVariables false
open Go.RowKit Go.Proofs.Ytemmnjnihngjgaa.PD Go.Proofs.Ytemmnjnihngjgaa.Num Go.Proofs.YtemmnjnihngjgaaW.PrintWords Go.Proofs.YtemmnjnihngjgaaW.PrintLast Go.Proofs.YtemmnjnihngjgaaW.PrintMore

theorem awake05 : Ev (fun k => regimenlaw05_awake.f k) true := Ev.of (fun k => regimenlaw05_awake.mono k) (k := 80) (by decide +kernel)
theorem DecGets : regimenlaw05_DecGets.Pure := by
  intro s hs
  refine Ev.rounds (r := true) ?_
  unfold regimenlaw05_DecGets.f
  by_cases c : (s.size : Int) > 60
  · exact evp c (Ev.bind awake05 (Ev.now _))
  · refine evn c ?_
    have pl := places_ok s (by omega)
    refine Ev.bind (dec_get_ok s (by omega)) ?_
    refine Ev.bind (ref_dec_get_ok s (by omega)) ?_
    refine Ev.bind (ref_places_ok s (by omega)) ?_
    by_cases d : plv (numsOf s) < 0
    · rw [if_pos d] at pl
      refine evp d ?_
      refine evp rfl ?_
      refine evp rfl ?_
      refine Ev.bind pl ?_
      refine evp rfl ?_
      exact Ev.bind awake05 (Ev.now _)
    · rw [if_neg d] at pl
      refine evn d ?_
      refine evp rfl ?_
      refine evp rfl ?_
      refine Ev.bind pl ?_
      refine evp rfl ?_
      exact Ev.bind awake05 (Ev.now _)
end Go.Proofs.Ytemmnjnihngjgaa.Pure
