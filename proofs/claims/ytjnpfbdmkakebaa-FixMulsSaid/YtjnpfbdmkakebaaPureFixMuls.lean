/- Any product and quotient of fixed-point numbers, rounded, is as the reference has it, where there is one: for every two numbers. -/
import Derived.Test.YtjnpfbdmkakebaaPAx8
import Derived.Test.YtjnpfbdmkakebaaPAx14
import Derived.Test.YtjnpfbdmkakebaaFix
namespace Go.Proofs.Ytjnpfbdmkakebaa.Pure
set_option linter.unusedVariables false
open Go.RowKit Go.Proofs.Ytjnpfbdmkakebaa.PA Go.Proofs.Ytjnpfbdmkakebaa.Num Go.Proofs.YtjnpfbdmkakebaaW.PrintWords Go.Proofs.YtjnpfbdmkakebaaW.PrintLast

theorem awake04a : Ev (fun k => regimenlaw04_awake.f k) true := Ev.of (fun k => regimenlaw04_awake.mono k) (k := 80) (by decide +kernel)

theorem FixMuls : regimenlaw04_FixMuls.Pure := by
  intro x y hx hy
  have hx := i64_wf hx
  have hy := i64_wf hy
  refine Ev.rounds (r := true) ?_
  unfold regimenlaw04_FixMuls.f
  refine Ev.bind (fix_mul_ok hx hy) ?_
  refine Ev.bind (ref_mul_ok hx hy) ?_
  refine Ev.bind (fix_div_ok hx hy) ?_
  refine Ev.bind (ref_div_ok hx hy) ?_
  refine evp rfl ?_
  refine evp rfl ?_
  refine evp rfl ?_
  refine evp rfl ?_
  exact Ev.bind awake04a (Ev.now _)
end Go.Proofs.Ytjnpfbdmkakebaa.Pure
