/- Nobody's cursor tells nothing: for whatever is asked of it. -/
import Derived.Test.YtnmmhfpekeeedaaPCx9
import Derived.Test.YtnmmhfpekeeedaaPCx10
namespace Go.Proofs.Ytnmmhfpekeeedaa.Pure
open Go.RowKit Go.Proofs.Ytnmmhfpekeeedaa.PC Go.Proofs.YtnmmhfpekeeedaaW.PrintWords Go.Proofs.YtnmmhfpekeeedaaW.PrintLast Go.Proofs.YtnmmhfpekeeedaaW.PrintMore

theorem awake13n : Ev (fun k => regimenlaw13_awake.f k) true := Ev.of (fun k => regimenlaw13_awake.mono k) (k := 80) (by decide +kernel)
theorem CursorNobody : regimenlaw13_CursorNobody.Pure := fun _ _ _ _ _ _ _ _ _ _ =>
  Ev.rounds (r := true) awake13n
end Go.Proofs.Ytnmmhfpekeeedaa.Pure
