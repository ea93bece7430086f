/- Any number's bar, between any two numbers, of any width, is what the document says; of a greater number no fewer are filled; of the least none, of the greatest all. -/
import Derived.Test.YtemmnjnihngjgaaPCx4
import Derived.Test.YtemmnjnihngjgaaPCx8
import Derived.Test.YtemmnjnihngjgaaCChart
namespace Go.Proofs.Ytemmnjnihngjgaa.Pure
set_option linter.unusedVariables false
open Go.RowKit Go.Proofs.Ytemmnjnihngjgaa.PC Go.Proofs.Ytemmnjnihngjgaa.Num Go.Proofs.YtemmnjnihngjgaaW.PrintWords Go.Proofs.YtemmnjnihngjgaaW.PrintLast Go.Proofs.YtemmnjnihngjgaaW.PrintMore

theorem awake50 : Ev (fun k => regimenlaw50_awake.f k) true := Ev.of (fun k => regimenlaw50_awake.mono k) (k := 80) (by decide +kernel)

theorem ChartBars : regimenlaw50_ChartBars.Pure := by
  intro x w lo hi hx hw hl hh
  have hx := i64_wf hx
  have hw := i64_wf hw
  have hl := i64_wf hl
  have hh := i64_wf hh
  refine Ev.rounds (r := true) ?_
  unfold regimenlaw50_ChartBars.f
  by_cases bad : lo ≥ hi ∨ ¬ may w
  · refine Ev.bind (fill_bad bad) ?_
    refine Ev.bind (barfn_bad bad) ?_
    have fin : Ev (fun k => regimenlaw50_ChartBars.j0 k lo hi x w 0 1 (⟨#[]⟩ : ByteArray) 1 true) true := by
      refine Ev.step (fun k => by rw [regimenlaw50_ChartBars.j0]) ?_
      refine evp rfl ?_
      refine evp rfl ?_
      refine evp rfl ?_
      refine evp (by decide +kernel) ?_
      refine evp rfl ?_
      exact Ev.bind awake50 (Ev.now _)
    by_cases c1 : lo ≥ hi
    · exact evp c1 fin
    · refine evn c1 ?_
      by_cases c2 : w < 1
      · exact evp c2 fin
      · refine evn c2 ?_
        have hn : ¬ may w := by rcases bad with h | h; (exact absurd h c1); exact h
        rw [decide_eq_true (by unfold may at hn; omega)]
        exact fin
  · have hlh : lo < hi := by
      rcases Int.lt_or_le lo hi with h | h
      · exact h
      · exact absurd (.inl h) bad
    have hm : may w := by
      rcases Classical.em (may w) with h | h
      · exact h
      · exact absurd (.inr h) bad
    have hm1 := hm.1
    have hm2 := hm.2
    have hf := fillv_in (x := x) hlh (w := w) (by omega)
    refine Ev.bind (fill_ok hx hl hh hm hlh) ?_
    refine Ev.bind (barfn_ok hx hl hh hm hlh) ?_
    refine evn (by omega) ?_
    refine evn (by omega) ?_
    rw [decide_eq_false (by omega)]
    refine Ev.step (fun k => by rw [regimenlaw50_ChartBars.j0]) ?_
    refine evn (by decide) ?_
    refine Ev.bind (fill_ok hl hl hh hm hlh) ?_
    refine Ev.bind (fill_ok hh hl hh hm hlh) ?_
    refine Ev.bind (ref_fill_ok hx hl hh hm hlh) ?_
    refine evp rfl ?_
    refine evp rfl ?_
    refine Ev.bind (ref_bar_ok hf.1 hf.2 (by omega)) ?_
    refine evp rfl ?_
    refine evp rfl ?_
    refine evp (fillv_lo hlh) ?_
    refine evp rfl ?_
    refine evp (fillv_hi hlh) ?_
    refine Ev.step (fun k => by rw [regimenlaw50_ChartBars.j1]) ?_
    refine evn (by simp) ?_
    by_cases c : x = 9223372036854775807
    · refine evp c ?_
      exact Ev.bind awake50 (Ev.now _)
    · refine evn c ?_
      rw [w64_id (x := x + 1) (by omega) (by omega)]
      refine Ev.bind (fill_ok (x := x + 1) (by omega) hl hh hm hlh) ?_
      refine evp rfl ?_
      refine evp (fillv_mono hlh (by omega) (by omega)) ?_
      exact Ev.bind awake50 (Ev.now _)
end Go.Proofs.Ytemmnjnihngjgaa.Pure
