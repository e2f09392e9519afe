/- More words for walks: slices that may be nil; cuts of a row that are read and written. -/
import Derived.Laws.IdiomCopy
import Derived.Test.YtlahigmoljflkaaOpn
import Derived.Lib.SliceRun
import Derived.Test.YtlahigmoljflkaaPur
namespace Go.Proofs.YtlahigmoljflkaaO
open Go.RowKit Go.Proofs.YtlahigmoljflkaaW.PrintWords Go.Proofs.YtlahigmoljflkaaW.PrintLast Go.Proofs.YtlahigmoljflkaaW.PrintMore
set_option linter.unusedVariables false

end Go.Proofs.YtlahigmoljflkaaO
