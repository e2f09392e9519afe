/- Printed by a copy of the printer that was turned for this claim: functions as plain Lean functions, with proofs that their calls come to these; or words that such proofs use. -/
import Derived.Test.YtlahigmoljflkaaWInv
import Derived.Test.YtlahigmoljflkaaWFootNe
namespace Go.Proofs.YtlahigmoljflkaaW.PrintWords
open Go.RowKit
end Go.Proofs.YtlahigmoljflkaaW.PrintWords
namespace Go.Proofs.YtlahigmoljflkaaW.PrintLast
section
variable {ops : Array Oper} {a : Act} {o og : Oper} {g : Nat} {t : Tmp} {u : Bool}
end
end Go.Proofs.YtlahigmoljflkaaW.PrintLast
