import Derived.Test.YtlahigmoljflkaaPur
import Derived.Laws.BitsLemmas
/- Numbers by groups of seven bits, as plain lists: what a list's head says, and which list says a number. -/
namespace Go.Proofs.Ytlahigmoljflkaa.Q
open Go.RowKit Go.Proofs.YtlahigmoljflkaaW.PrintWords Go.Proofs.YtlahigmoljflkaaW.PrintLast Go.Proofs.YtlahigmoljflkaaW.PrintMore Go.Proofs.YtlahigmoljflkaaU
set_option linter.unusedVariables false

/-- What the first n groups say. -/
def val (b : List Int) : Nat → Int
  | 0 => 0
  | n + 1 => val b n + (b.getD n 0 % 128) * 128 ^ n
end Go.Proofs.Ytlahigmoljflkaa.Q
