/- How far two numbers are apart (layer 7's reference), by value. -/
import Derived.Test.YtmakhhgfidgfdaaPFx0
import Derived.Test.YtmakhhgfidgfdaaFRndMath
namespace Go.Proofs.Ytmakhhgfidgfdaa.Num
set_option linter.unusedVariables false
set_option linter.unusedSimpArgs false
open Go.RowKit Go.Proofs.Ytmakhhgfidgfdaa.PF Go.Proofs.YtmakhhgfidgfdaaW.PrintWords Go.Proofs.YtmakhhgfidgfdaaW.PrintMore

end Go.Proofs.Ytmakhhgfidgfdaa.Num
