/- How far two numbers are apart (layer 7's reference), by value. -/
import Derived.Test.YtmakhhgfidgfdaaPCx0
import Derived.Test.YtmakhhgfidgfdaaCRndMath
namespace Go.Proofs.Ytmakhhgfidgfdaa.Num
set_option linter.unusedVariables false
set_option linter.unusedSimpArgs false
open Go.RowKit Go.Proofs.Ytmakhhgfidgfdaa.PC Go.Proofs.YtmakhhgfidgfdaaW.PrintWords Go.Proofs.YtmakhhgfidgfdaaW.PrintMore

end Go.Proofs.Ytmakhhgfidgfdaa.Num
