/- Any number's decimal is the one that the document says, and it is read as the number. -/
import Derived.Test.YtemmnjnihngjgaaPDx6
import Derived.Test.YtemmnjnihngjgaaPDx13
import Derived.Test.YtemmnjnihngjgaaDDecS
namespace Go.Proofs.Ytemmnjnihngjgaa.Pure
set_option linter.unusedVariables false
open Go.RowKit Go.Proofs.Ytemmnjnihngjgaa.PD Go.Proofs.Ytemmnjnihngjgaa.Num Go.Proofs.YtemmnjnihngjgaaW.PrintWords Go.Proofs.YtemmnjnihngjgaaW.PrintLast Go.Proofs.YtemmnjnihngjgaaW.PrintMore

theorem awake05b : Ev (fun k => regimenlaw05_awake.f k) true := Ev.of (fun k => regimenlaw05_awake.mono k) (k := 80) (by decide +kernel)
theorem DecPuts : regimenlaw05_DecPuts.Pure := by
  intro x hx
  have hx := i64_wf hx
  obtain ⟨n, hf⟩ := fewest_ex (f := iabs x % 4294967296)
  have h10 := hf.1
  obtain ⟨hb, hl⟩ := putl_byte x n hx
  have hg := dec_get_ok (strOfNums (putl x n)) (by rw [strOfNums_size]; omega)
  rw [hb, (putl_back hx hf).1] at hg
  refine Ev.rounds (r := true) ?_
  unfold regimenlaw05_DecPuts.f
  refine Ev.bind (dec_put_ok hx hf) ?_
  refine Ev.bind hg ?_
  refine Ev.bind (ref_put_ok hx hf) ?_
  refine evp rfl ?_
  refine evp rfl ?_
  refine evp rfl ?_
  exact Ev.bind awake05b (Ev.now _)
end Go.Proofs.Ytemmnjnihngjgaa.Pure
