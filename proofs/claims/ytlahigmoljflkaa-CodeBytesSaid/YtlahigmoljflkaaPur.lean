/- Plain lemmas on numbers and lists of bytes, for the pure statements. -/
import Derived.Test.YtlahigmoljflkaaWWords
import Derived.Test.YtlahigmoljflkaaWLast
import Derived.Test.YtlahigmoljflkaaWMore
import Derived.Laws.BitsLemmas
namespace Go.Proofs.YtlahigmoljflkaaU
open Go.RowKit Go.Proofs.YtlahigmoljflkaaW.PrintWords Go.Proofs.YtlahigmoljflkaaW.PrintLast Go.Proofs.YtlahigmoljflkaaW.PrintMore
set_option linter.unusedVariables false

theorem w64 {x : Int} (h0 : -9223372036854775808 ≤ x) (h1 : x ≤ 9223372036854775807) : wrap64 x = x := by
  unfold wrap64
  omega

end Go.Proofs.YtlahigmoljflkaaU
