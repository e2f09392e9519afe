/- Printed by a copy of the printer that was turned for this claim: functions as plain Lean functions, with proofs that their calls come to these; or words that such proofs use. -/
import Derived.Test.YtdoaininjfbemaaPAllx0
import Derived.Test.YtdoaininjfbemaaPAllx2
import Derived.Test.YtdoaininjfbemaaPAllx3
import Derived.Test.YtdoaininjfbemaaPAllx7
import Derived.Test.YtdoaininjfbemaaPAllx8
import Derived.Test.YtdoaininjfbemaaPAllx9
namespace Go.Proofs.Ytdoaininjfbemaa.PAll
open Go.RowKit Go.Proofs.YtdoaininjfbemaaW.PrintWords Go.Proofs.YtdoaininjfbemaaW.PrintLast Go.Proofs.YtdoaininjfbemaaW.PrintMore
attribute [local go_sem] max2_int min2_int max_two min_two max_three min_three max_four min_four   -- for this text's walks alone
set_option linter.unusedVariables false
set_option linter.unusedSimpArgs false

/-! ### gangwaylaw19_IovBack: function 4 -/
abbrev gangwaylaw19_IovBack.t : Bool := true
abbrev gangwaylaw19_IovBack.f_ : Bool := false
def gangwaylaw19_IovBack.bb0_ : Array Bool := #[t, t, t, t, t, t, t, t, t, t, t, t, t, t, t, t]
def gangwaylaw19_IovBack.bb1_ : Array Bool := #[t, t, t, t, t, t, t, t, t, t, t, t, t, t, t, f_]
def gangwaylaw19_IovBack.bb2_ : Array Bool := #[t, t, t, t, t, t, t, t, t, t, t, t, t, t, f_, f_]
def gangwaylaw19_IovBack.bb3_ : Array Bool := #[t, t, t, t, t, t, t, t, t, t, t, t, t, f_, f_, f_]
def gangwaylaw19_IovBack.bb4_ : Array Bool := #[t, t, t, t, t, t, t, t, t, t, t, t, f_, f_, f_, f_]
def gangwaylaw19_IovBack.bb5_ : Array Bool := #[t, t, t, t, t, t, t, t, t, t, f_, t, f_, f_, f_, f_]
def gangwaylaw19_IovBack.bb6_ : Array Bool := #[t, t, t, t, t, t, t, t, t, t, t, f_, f_, f_, f_, f_]
def gangwaylaw19_IovBack.bb7_ : Array Bool := #[t, t, t, t, t, t, f_, t, t, t, f_, t, f_, f_, f_, f_]
def gangwaylaw19_IovBack.bb8_ : Array Bool := #[t, t, t, t, t, t, t, t, t, t, f_, f_, f_, f_, f_, f_]
def gangwaylaw19_IovBack.bb9_ : Array Bool := #[t, t, t, t, t, t, f_, t, t, t, f_, f_, f_, f_, f_, f_]
def gangwaylaw19_IovBack.bb10_ : Array Bool := #[t, t, t, t, t, t, t, t, t, f_, f_, f_, f_, f_, f_, f_]
def gangwaylaw19_IovBack.bb11_ : Array Bool := #[t, t, t, t, t, t, f_, t, t, f_, f_, f_, f_, f_, f_, f_]
def gangwaylaw19_IovBack.bb12_ : Array Bool := #[t, t, t, t, t, t, t, t, f_, f_, f_, f_, f_, f_, f_, f_]
def gangwaylaw19_IovBack.bb13_ : Array Bool := #[t, t, t, t, t, t, f_, t, f_, f_, f_, f_, f_, f_, f_, f_]
def gangwaylaw19_IovBack.bb14_ : Array Bool := #[t, t, t, t, t, t, t, f_, f_, f_, f_, f_, f_, f_, f_, f_]
def gangwaylaw19_IovBack.bb15_ : Array Bool := #[t, t, t, t, t, t, f_, f_, f_, f_, f_, f_, f_, f_, f_, f_]
def gangwaylaw19_IovBack.bb16_ : Array Bool := #[t, t, t, t, t, f_, f_, f_, f_, f_, f_, f_, f_, f_, f_, f_]
def gangwaylaw19_IovBack.bb17_ : Array Bool := #[t, t, t, t, f_, f_, f_, f_, f_, f_, f_, f_, f_, f_, f_, f_]
def gangwaylaw19_IovBack.bb18_ : Array Bool := #[t, t, t, f_, f_, f_, f_, f_, f_, f_, f_, f_, f_, f_, f_, f_]
def gangwaylaw19_IovBack.bb19_ : Array Bool := #[t, t, f_, f_, f_, f_, f_, f_, f_, f_, f_, f_, f_, f_, f_, f_]
def gangwaylaw19_IovBack.bb20_ : Array Bool := #[t, f_, f_, f_, f_, f_, f_, f_, f_, f_, f_, f_, f_, f_, f_, f_]
def gangwaylaw19_IovBack.bb21_ : Array Bool := #[f_, f_, f_, f_, f_, f_, f_, f_, f_, f_, f_, f_, f_, f_, f_, f_]
def gangwaylaw19_IovBack.bb22_ : Array Bool := #[t, t, t, t, t, t, t, t, t, t, t, t, t, t, t, t, t, t, t, t, t, t, t, t, t, t]
def gangwaylaw19_IovBack.bb23_ : Array Bool := #[t, t, t, t, t, t, t, t, t, t, t, t, t, t, t, t, t, t, t, t, t, t, t, t, t, f_]
def gangwaylaw19_IovBack.bb24_ : Array Bool := #[t, t, t, t, t, t, t, t, t, t, t, t, t, t, t, t, t, t, t, t, t, t, t, t, f_, f_]
def gangwaylaw19_IovBack.bb25_ : Array Bool := #[t, t, t, t, t, t, t, t, t, t, t, t, t, t, t, t, t, t, t, t, t, t, t, f_, f_, f_]
def gangwaylaw19_IovBack.bb26_ : Array Bool := #[t, t, t, t, t, t, t, t, t, t, t, t, t, t, t, t, t, t, t, t, t, t, f_, f_, f_, f_]
def gangwaylaw19_IovBack.bb27_ : Array Bool := #[t, t, t, t, t, t, t, t, t, t, t, t, t, t, t, t, t, t, t, t, t, f_, f_, f_, f_, f_]
def gangwaylaw19_IovBack.bb28_ : Array Bool := #[t, t, t, t, t, t, t, t, t, t, t, t, t, t, t, t, t, t, t, t, f_, f_, f_, f_, f_, f_]
def gangwaylaw19_IovBack.bb29_ : Array Bool := #[t, t, t, t, t, t, t, t, t, t, t, t, t, t, t, f_, t, t, t, t, f_, f_, f_, f_, f_, f_]
def gangwaylaw19_IovBack.bb30_ : Array Bool := #[t, t, t, t, t, t, t, t, t, t, t, t, t, t, t, t, t, t, t, f_, f_, f_, f_, f_, f_, f_]
def gangwaylaw19_IovBack.bb31_ : Array Bool := #[t, t, t, t, t, t, t, t, t, t, t, t, t, t, t, f_, t, t, t, f_, f_, f_, f_, f_, f_, f_]
def gangwaylaw19_IovBack.bb32_ : Array Bool := #[t, t, t, t, t, t, t, t, t, t, t, t, t, t, t, t, t, t, f_, f_, f_, f_, f_, f_, f_, f_]
def gangwaylaw19_IovBack.bb33_ : Array Bool := #[t, t, t, t, t, t, t, t, t, t, t, t, t, t, t, f_, t, t, f_, f_, f_, f_, f_, f_, f_, f_]
def gangwaylaw19_IovBack.bb34_ : Array Bool := #[t, t, t, t, t, t, t, t, t, t, t, t, t, t, t, t, t, f_, f_, f_, f_, f_, f_, f_, f_, f_]
def gangwaylaw19_IovBack.bb35_ : Array Bool := #[t, t, t, t, t, t, t, t, t, t, t, t, t, t, t, f_, t, f_, f_, f_, f_, f_, f_, f_, f_, f_]
def gangwaylaw19_IovBack.bb36_ : Array Bool := #[t, t, t, t, t, t, t, t, t, t, t, t, t, t, t, t, f_, f_, f_, f_, f_, f_, f_, f_, f_, f_]
def gangwaylaw19_IovBack.bb37_ : Array Bool := #[t, t, t, t, t, t, t, t, t, t, t, t, t, t, t, f_, f_, f_, f_, f_, f_, f_, f_, f_, f_, f_]
def gangwaylaw19_IovBack.bb38_ : Array Bool := #[t, t, t, t, t, t, t, t, t, t, t, t, t, t, f_, f_, f_, f_, f_, f_, f_, f_, f_, f_, f_, f_]
def gangwaylaw19_IovBack.bb39_ : Array Bool := #[t, t, t, t, t, t, t, t, t, t, t, t, t, f_, f_, f_, f_, f_, f_, f_, f_, f_, f_, f_, f_, f_]
def gangwaylaw19_IovBack.bb40_ : Array Bool := #[t, t, t, t, t, t, t, t, t, t, t, t, f_, f_, f_, f_, f_, f_, f_, f_, f_, f_, f_, f_, f_, f_]
def gangwaylaw19_IovBack.bb41_ : Array Bool := #[t, t, t, t, t, t, t, t, t, t, t, f_, f_, f_, f_, f_, f_, f_, f_, f_, f_, f_, f_, f_, f_, f_]
def gangwaylaw19_IovBack.bb42_ : Array Bool := #[t, t, t, t, t, t, t, t, t, t, f_, f_, f_, f_, f_, f_, f_, f_, f_, f_, f_, f_, f_, f_, f_, f_]
def gangwaylaw19_IovBack.bb43_ : Array Bool := #[t, t, t, t, t, t, t, t, t, f_, f_, f_, f_, f_, f_, f_, f_, f_, f_, f_, f_, f_, f_, f_, f_, f_]
def gangwaylaw19_IovBack.bb44_ : Array Bool := #[t, t, t, t, t, t, t, t, f_, f_, f_, f_, f_, f_, f_, f_, f_, f_, f_, f_, f_, f_, f_, f_, f_, f_]
def gangwaylaw19_IovBack.bb45_ : Array Bool := #[t, t, t, t, t, t, t, f_, f_, f_, f_, f_, f_, f_, f_, f_, f_, f_, f_, f_, f_, f_, f_, f_, f_, f_]
def gangwaylaw19_IovBack.bb46_ : Array Bool := #[t, t, t, t, t, t, f_, f_, f_, f_, f_, f_, f_, f_, f_, f_, f_, f_, f_, f_, f_, f_, f_, f_, f_, f_]
def gangwaylaw19_IovBack.bb47_ : Array Bool := #[t, t, t, t, t, f_, f_, f_, f_, f_, f_, f_, f_, f_, f_, f_, f_, f_, f_, f_, f_, f_, f_, f_, f_, f_]
def gangwaylaw19_IovBack.bb48_ : Array Bool := #[t, t, t, t, f_, f_, f_, f_, f_, f_, f_, f_, f_, f_, f_, f_, f_, f_, f_, f_, f_, f_, f_, f_, f_, f_]
def gangwaylaw19_IovBack.bb49_ : Array Bool := #[t, t, t, f_, f_, f_, f_, f_, f_, f_, f_, f_, f_, f_, f_, f_, f_, f_, f_, f_, f_, f_, f_, f_, f_, f_]
def gangwaylaw19_IovBack.bb50_ : Array Bool := #[t, t, f_, f_, f_, f_, f_, f_, f_, f_, f_, f_, f_, f_, f_, f_, f_, f_, f_, f_, f_, f_, f_, f_, f_, f_]
def gangwaylaw19_IovBack.bb51_ : Array Bool := #[t, f_, f_, f_, f_, f_, f_, f_, f_, f_, f_, f_, f_, f_, f_, f_, f_, f_, f_, f_, f_, f_, f_, f_, f_, f_]
def gangwaylaw19_IovBack.bb52_ : Array Bool := #[f_, f_, f_, f_, f_, f_, f_, f_, f_, f_, f_, f_, f_, f_, f_, f_, f_, f_, f_, f_, f_, f_, f_, f_, f_, f_]
def gangwaylaw19_IovBack.bb53_ : Array Bool := #[t, t, t, t, t, t, t, t, t, t, t, t, t, t, t, t, t, t, t, t, t, t, t, t, t, t, t, t, t, t, t, t, t, t, t, t, t, t, t, t, t, t, t, t]
def gangwaylaw19_IovBack.bb54_ : Array Bool := #[t, t, t, t, t, t, t, t, t, t, t, t, t, t, t, t, t, t, t, t, t, t, t, t, t, t, t, t, t, t, t, t, t, t, t, t, t, t, t, t, t, t, t, f_]
def gangwaylaw19_IovBack.bb55_ : Array Bool := #[t, t, t, t, t, t, t, t, t, t, t, t, t, t, t, t, t, t, t, t, t, t, t, t, t, t, t, t, t, t, t, t, t, t, t, t, t, t, t, t, t, t, f_, f_]
def gangwaylaw19_IovBack.bb56_ : Array Bool := #[t, t, t, t, t, t, t, t, t, t, t, t, t, t, t, t, t, t, t, t, t, t, t, t, t, t, t, t, t, t, t, t, t, t, t, t, t, t, t, t, t, f_, f_, f_]
def gangwaylaw19_IovBack.bb57_ : Array Bool := #[t, t, t, t, t, t, t, t, t, t, t, t, t, t, t, t, t, t, t, t, t, t, t, t, t, t, t, t, t, t, t, t, t, t, t, t, t, t, t, t, f_, f_, f_, f_]
def gangwaylaw19_IovBack.bb58_ : Array Bool := #[t, t, t, t, t, t, t, t, t, t, t, t, t, t, t, t, t, t, t, t, t, t, t, t, t, t, t, t, t, t, t, t, t, t, t, t, t, t, f_, t, f_, f_, f_, f_]
def gangwaylaw19_IovBack.bb59_ : Array Bool := #[t, t, t, t, t, t, t, t, t, t, t, t, t, t, t, t, t, t, t, t, t, t, t, t, t, t, t, t, t, t, t, t, t, t, t, t, t, t, f_, f_, f_, f_, f_, f_]
def gangwaylaw19_IovBack.bb60_ : Array Bool := #[t, t, t, t, t, t, t, t, t, t, t, t, t, t, t, t, t, t, t, t, t, t, t, t, t, t, t, t, t, t, t, t, t, t, t, t, t, f_, f_, f_, f_, f_, f_, f_]
def gangwaylaw19_IovBack.bb61_ : Array Bool := #[t, t, t, t, t, t, t, t, t, t, t, t, t, t, t, t, t, t, t, t, t, t, t, t, t, t, t, t, t, t, t, t, t, t, t, t, f_, f_, f_, f_, f_, f_, f_, f_]
def gangwaylaw19_IovBack.bb62_ : Array Bool := #[t, t, t, t, t, t, t, t, t, t, t, t, t, t, t, t, t, t, t, t, t, t, t, t, t, t, t, t, t, t, t, t, t, t, t, f_, f_, f_, f_, f_, f_, f_, f_, f_]
def gangwaylaw19_IovBack.bb63_ : Array Bool := #[t, t, t, t, t, t, t, t, t, t, t, t, t, t, t, t, t, t, t, t, t, t, t, t, t, t, t, t, t, t, t, t, t, t, f_, f_, f_, f_, f_, f_, f_, f_, f_, f_]
def gangwaylaw19_IovBack.bb64_ : Array Bool := #[t, t, t, t, t, t, t, t, t, t, t, t, t, t, t, t, t, t, t, t, t, t, t, t, t, t, t, t, t, t, t, t, t, f_, f_, f_, f_, f_, f_, f_, f_, f_, f_, f_]
def gangwaylaw19_IovBack.bb65_ : Array Bool := #[t, t, t, t, t, t, t, t, t, t, t, t, t, t, t, t, t, t, t, t, t, t, t, t, t, t, t, t, t, t, t, t, f_, f_, f_, f_, f_, f_, f_, f_, f_, f_, f_, f_]
def gangwaylaw19_IovBack.bb66_ : Array Bool := #[t, t, t, t, t, t, t, t, t, t, t, t, t, t, t, t, t, t, t, t, t, t, t, t, t, t, t, t, t, t, t, f_, f_, f_, f_, f_, f_, f_, f_, f_, f_, f_, f_, f_]
def gangwaylaw19_IovBack.bb67_ : Array Bool := #[t, t, t, t, t, t, t, t, t, t, t, t, t, t, t, t, t, t, t, t, t, t, t, t, t, t, t, t, t, t, f_, f_, f_, f_, f_, f_, f_, f_, f_, f_, f_, f_, f_, f_]
def gangwaylaw19_IovBack.bb68_ : Array Bool := #[t, t, t, t, t, t, t, t, t, t, t, t, t, t, t, t, t, t, t, t, t, t, t, t, t, t, t, t, t, f_, f_, f_, f_, f_, f_, f_, f_, f_, f_, f_, f_, f_, f_, f_]
def gangwaylaw19_IovBack.bb69_ : Array Bool := #[t, t, t, t, t, t, t, t, t, t, t, t, t, t, t, t, t, t, t, t, t, t, t, t, t, t, t, t, f_, f_, f_, f_, f_, f_, f_, f_, f_, f_, f_, f_, f_, f_, f_, f_]
def gangwaylaw19_IovBack.bb70_ : Array Bool := #[t, t, t, t, t, t, t, t, t, t, t, t, t, t, t, t, t, t, t, t, t, t, t, t, t, t, t, f_, f_, f_, f_, f_, f_, f_, f_, f_, f_, f_, f_, f_, f_, f_, f_, f_]
def gangwaylaw19_IovBack.bb71_ : Array Bool := #[t, t, t, t, t, t, t, t, t, t, t, t, t, t, t, t, t, t, t, t, t, t, t, t, t, t, f_, f_, f_, f_, f_, f_, f_, f_, f_, f_, f_, f_, f_, f_, f_, f_, f_, f_]
def gangwaylaw19_IovBack.bb72_ : Array Bool := #[t, t, t, t, t, t, t, t, t, t, t, t, t, t, t, t, t, t, t, t, t, t, t, t, t, f_, f_, f_, f_, f_, f_, f_, f_, f_, f_, f_, f_, f_, f_, f_, f_, f_, f_, f_]
def gangwaylaw19_IovBack.bb73_ : Array Bool := #[t, t, t, t, t, t, t, t, t, t, t, t, t, t, t, t, t, t, t, t, t, t, t, t, f_, f_, f_, f_, f_, f_, f_, f_, f_, f_, f_, f_, f_, f_, f_, f_, f_, f_, f_, f_]
def gangwaylaw19_IovBack.bb74_ : Array Bool := #[t, t, t, t, t, t, t, t, t, t, t, t, t, t, t, t, t, t, t, t, t, t, t, f_, f_, f_, f_, f_, f_, f_, f_, f_, f_, f_, f_, f_, f_, f_, f_, f_, f_, f_, f_, f_]
def gangwaylaw19_IovBack.bb75_ : Array Bool := #[t, t, t, t, t, t, t, t, t, t, t, t, t, t, t, t, t, t, t, t, t, t, f_, f_, f_, f_, f_, f_, f_, f_, f_, f_, f_, f_, f_, f_, f_, f_, f_, f_, f_, f_, f_, f_]
def gangwaylaw19_IovBack.bb76_ : Array Bool := #[t, t, t, t, t, t, t, t, t, t, t, t, t, t, t, t, t, t, t, t, t, f_, f_, f_, f_, f_, f_, f_, f_, f_, f_, f_, f_, f_, f_, f_, f_, f_, f_, f_, f_, f_, f_, f_]
def gangwaylaw19_IovBack.bb77_ : Array Bool := #[t, t, t, t, t, t, t, t, t, t, t, t, t, t, t, t, t, t, t, t, f_, f_, f_, f_, f_, f_, f_, f_, f_, f_, f_, f_, f_, f_, f_, f_, f_, f_, f_, f_, f_, f_, f_, f_]
def gangwaylaw19_IovBack.bb78_ : Array Bool := #[t, t, t, t, t, t, t, t, t, t, t, t, t, t, t, t, t, t, t, f_, f_, f_, f_, f_, f_, f_, f_, f_, f_, f_, f_, f_, f_, f_, f_, f_, f_, f_, f_, f_, f_, f_, f_, f_]
def gangwaylaw19_IovBack.bb79_ : Array Bool := #[t, t, t, t, t, t, t, t, t, t, t, t, t, t, t, t, t, t, f_, f_, f_, f_, f_, f_, f_, f_, f_, f_, f_, f_, f_, f_, f_, f_, f_, f_, f_, f_, f_, f_, f_, f_, f_, f_]
def gangwaylaw19_IovBack.bb80_ : Array Bool := #[t, t, t, t, t, t, t, t, t, t, t, t, t, t, t, t, t, f_, f_, f_, f_, f_, f_, f_, f_, f_, f_, f_, f_, f_, f_, f_, f_, f_, f_, f_, f_, f_, f_, f_, f_, f_, f_, f_]
def gangwaylaw19_IovBack.bb81_ : Array Bool := #[t, t, t, t, t, t, t, t, t, t, t, t, t, t, t, t, f_, f_, f_, f_, f_, f_, f_, f_, f_, f_, f_, f_, f_, f_, f_, f_, f_, f_, f_, f_, f_, f_, f_, f_, f_, f_, f_, f_]
def gangwaylaw19_IovBack.bb82_ : Array Bool := #[t, t, t, t, t, t, t, t, t, t, t, t, t, t, t, f_, f_, f_, f_, f_, f_, f_, f_, f_, f_, f_, f_, f_, f_, f_, f_, f_, f_, f_, f_, f_, f_, f_, f_, f_, f_, f_, f_, f_]
def gangwaylaw19_IovBack.bb83_ : Array Bool := #[t, t, t, t, t, t, t, t, t, t, t, t, t, t, f_, f_, f_, f_, f_, f_, f_, f_, f_, f_, f_, f_, f_, f_, f_, f_, f_, f_, f_, f_, f_, f_, f_, f_, f_, f_, f_, f_, f_, f_]
def gangwaylaw19_IovBack.bb84_ : Array Bool := #[t, t, t, t, t, t, t, t, t, t, t, t, t, f_, f_, f_, f_, f_, f_, f_, f_, f_, f_, f_, f_, f_, f_, f_, f_, f_, f_, f_, f_, f_, f_, f_, f_, f_, f_, f_, f_, f_, f_, f_]
def gangwaylaw19_IovBack.bb85_ : Array Bool := #[t, t, t, t, t, t, t, t, t, t, t, t, f_, f_, f_, f_, f_, f_, f_, f_, f_, f_, f_, f_, f_, f_, f_, f_, f_, f_, f_, f_, f_, f_, f_, f_, f_, f_, f_, f_, f_, f_, f_, f_]
def gangwaylaw19_IovBack.bb86_ : Array Bool := #[t, t, t, t, t, t, t, t, t, t, t, f_, f_, f_, f_, f_, f_, f_, f_, f_, f_, f_, f_, f_, f_, f_, f_, f_, f_, f_, f_, f_, f_, f_, f_, f_, f_, f_, f_, f_, f_, f_, f_, f_]
def gangwaylaw19_IovBack.bb87_ : Array Bool := #[t, t, t, t, t, t, t, t, t, t, f_, f_, f_, f_, f_, f_, f_, f_, f_, f_, f_, f_, f_, f_, f_, f_, f_, f_, f_, f_, f_, f_, f_, f_, f_, f_, f_, f_, f_, f_, f_, f_, f_, f_]
def gangwaylaw19_IovBack.bb88_ : Array Bool := #[t, t, t, t, t, t, t, t, t, f_, f_, f_, f_, f_, f_, f_, f_, f_, f_, f_, f_, f_, f_, f_, f_, f_, f_, f_, f_, f_, f_, f_, f_, f_, f_, f_, f_, f_, f_, f_, f_, f_, f_, f_]
def gangwaylaw19_IovBack.bb89_ : Array Bool := #[t, t, t, t, t, t, t, t, f_, f_, f_, f_, f_, f_, f_, f_, f_, f_, f_, f_, f_, f_, f_, f_, f_, f_, f_, f_, f_, f_, f_, f_, f_, f_, f_, f_, f_, f_, f_, f_, f_, f_, f_, f_]
def gangwaylaw19_IovBack.bb90_ : Array Bool := #[t, t, t, t, t, t, t, f_, f_, f_, f_, f_, f_, f_, f_, f_, f_, f_, f_, f_, f_, f_, f_, f_, f_, f_, f_, f_, f_, f_, f_, f_, f_, f_, f_, f_, f_, f_, f_, f_, f_, f_, f_, f_]
def gangwaylaw19_IovBack.bb91_ : Array Bool := #[t, t, t, t, t, t, f_, f_, f_, f_, f_, f_, f_, f_, f_, f_, f_, f_, f_, f_, f_, f_, f_, f_, f_, f_, f_, f_, f_, f_, f_, f_, f_, f_, f_, f_, f_, f_, f_, f_, f_, f_, f_, f_]
def gangwaylaw19_IovBack.bb92_ : Array Bool := #[t, t, t, t, t, f_, f_, f_, f_, f_, f_, f_, f_, f_, f_, f_, f_, f_, f_, f_, f_, f_, f_, f_, f_, f_, f_, f_, f_, f_, f_, f_, f_, f_, f_, f_, f_, f_, f_, f_, f_, f_, f_, f_]
def gangwaylaw19_IovBack.bb93_ : Array Bool := #[t, t, t, t, f_, f_, f_, f_, f_, f_, f_, f_, f_, f_, f_, f_, f_, f_, f_, f_, f_, f_, f_, f_, f_, f_, f_, f_, f_, f_, f_, f_, f_, f_, f_, f_, f_, f_, f_, f_, f_, f_, f_, f_]
def gangwaylaw19_IovBack.bb94_ : Array Bool := #[t, t, t, f_, f_, f_, f_, f_, f_, f_, f_, f_, f_, f_, f_, f_, f_, f_, f_, f_, f_, f_, f_, f_, f_, f_, f_, f_, f_, f_, f_, f_, f_, f_, f_, f_, f_, f_, f_, f_, f_, f_, f_, f_]
def gangwaylaw19_IovBack.bb95_ : Array Bool := #[t, t, f_, f_, f_, f_, f_, f_, f_, f_, f_, f_, f_, f_, f_, f_, f_, f_, f_, f_, f_, f_, f_, f_, f_, f_, f_, f_, f_, f_, f_, f_, f_, f_, f_, f_, f_, f_, f_, f_, f_, f_, f_, f_]
def gangwaylaw19_IovBack.bb96_ : Array Bool := #[t, f_, f_, f_, f_, f_, f_, f_, f_, f_, f_, f_, f_, f_, f_, f_, f_, f_, f_, f_, f_, f_, f_, f_, f_, f_, f_, f_, f_, f_, f_, f_, f_, f_, f_, f_, f_, f_, f_, f_, f_, f_, f_, f_]
def gangwaylaw19_IovBack.bb97_ : Array Bool := #[f_, f_, f_, f_, f_, f_, f_, f_, f_, f_, f_, f_, f_, f_, f_, f_, f_, f_, f_, f_, f_, f_, f_, f_, f_, f_, f_, f_, f_, f_, f_, f_, f_, f_, f_, f_, f_, f_, f_, f_, f_, f_, f_, f_]
theorem gangwaylaw19_IovBack.bc {w : World} {g : Nat} {cs : Array Value} {t : TypeId} (h : Aside0 (w.heap[g]? = some (.cells cs t (0, 0)))) (i : Nat) {v : Value} (e : cs[i]? = some v := by rfl) : w.cell? ⟨g, i, none⟩ = some v := (blk_cell h.out i).trans e
theorem gangwaylaw19_IovBack.bkept {W0 W W2 : World} {g : Nat} {o : Obj} {S : Nat → Prop} (_b : Aside0 (W0.heap[g]? = some o)) (h : W.heap[g]? = some o) (hk : Kept W W2 S) (hn : ¬ S g) : W2.heap[g]? = some o := blk_kept h hk hn
theorem gangwaylaw19_IovBack.bbelow {W0 w w1 : World} {g : Nat} {o : Obj} (_b : Aside0 (W0.heap[g]? = some o)) (h : w.heap[g]? = some o) (hb : Below w.heap.size w w1) : w1.heap[g]? = some o := blk_below h hb
theorem gangwaylaw19_IovBack.e1 {α : Type _} (xs : List α) (i : Nat) (a : α) : xs.toArray.setIfInBounds i a = (xs.set i a).toArray := by simp
theorem gangwaylaw19_IovBack.e2 {α : Type _} (x a : α) (xs : List α) : (x :: xs).set 0 a = a :: xs := rfl
theorem gangwaylaw19_IovBack.e3 {α : Type _} (x a : α) (xs : List α) (n : Nat) : (x :: xs).set (n + 1) a = x :: xs.set n a := rfl
def gangwaylaw19_IovBack.putsW (g : Nat) : World → Nat → List Value → World
 | w, _, [] => w
 | w, i, u :: us => gangwaylaw19_IovBack.putsW g (w.setCell ⟨g, i, none⟩ u) (i + 1) us
theorem gangwaylaw19_IovBack.putsL {g : Nat} {t : TypeId} : ∀ (us pre post : List Value) (w : World), w.heap[g]? = some (.cells (pre ++ post).toArray t (0, 0)) → post.length = us.length → (gangwaylaw19_IovBack.putsW g w pre.length us).heap[g]? = some (.cells (pre ++ us).toArray t (0, 0))
 | [], pre, [], w, h, _ => h
 | u :: us, pre, [], w, h, e => by simp at e
 | [], pre, z :: post, w, h, e => by simp at e
 | u :: us, pre, z :: post, w, h, e => by
  have h1 := blk_put h pre.length u (cs' := ((pre ++ [u]) ++ post).toArray) (by simp)
  have h2 := gangwaylaw19_IovBack.putsL us (pre ++ [u]) post _ h1 (by simpa using e)
  simpa [gangwaylaw19_IovBack.putsW] using h2
theorem gangwaylaw19_IovBack.puts {w : World} {g : Nat} {t : TypeId} {cs : Array Value} (us : List Value) (h : w.heap[g]? = some (.cells cs t (0, 0))) (e : cs.toList.length = us.length) : (gangwaylaw19_IovBack.putsW g w 0 us).heap[g]? = some (.cells us.toArray t (0, 0)) := gangwaylaw19_IovBack.putsL us [] cs.toList w h e
theorem gangwaylaw19_IovBack.up {w w' : World} {a : Addr} {v : Value} (hb : Aside0 (Below w.heap.size w w')) (h : w.cell? a = some v) : w'.cell? a = some v := (hb.out.cell (World.block_lt_of_cell? w _ h)).trans h
mutual
def gangwaylaw19_IovBack.l0 : Nat → List (S26) → Int → Option (Bool)
 | 0, _, _ => none
 | k + 1, x0, x3 => if x3 < (x0.length : Int) then (gangwaylaw19_IovBack.j1 k x0 x3 (decide (x3 < 8))) else (gangwaylaw19_IovBack.j1 k x0 x3 false)
def gangwaylaw19_IovBack.j1 : Nat → List (S26) → Int → Bool → Option (Bool)
 | 0, _, _, _ => none
 | k + 1, x0, x3, x30 => if x30 = true then (if 0 ≤ x3 then (if x3 < (x0.length : Int) then ((gangwaylaw19_heavy.f k ((rd_T26 x0 x3).f0) ((rd_T26 x0 x3).f1) ((rd_T26 x0 x3).f2) ((rd_T26 x0 x3).f3) ((rd_T26 x0 x3).f4)).bind fun t480 => (if t480 = true then (some true) else ((gangwaylaw19_Both.f k ((rd_T26 x0 x3).f0)).bind fun bt481 => (if bt481.1 = true then (if bt481.2.2.2.1 = true then (gangwaylaw19_IovBack.l1 k x0 x3 ([] : List (S50)) 100 0 0 ((rd_T26 x0 x3).f0) ((rd_T26 x0 x3).f1) ((rd_T26 x0 x3).f2) ((rd_T26 x0 x3).f3) ((rd_T26 x0 x3).f4) bt481.2.1 bt481.2.2.1 bt481.2.2.2.2.1 bt481.2.2.2.2.2) else (none)) else (none))))) else (none)) else (none)) else ((gangwaylaw19_wakes.f k).bind fun t477 => (some t477))
def gangwaylaw19_IovBack.j3 : Nat → List (S26) → Int → List (S50) → Int → List Int → Int → Int → List (S50) → List Int → List Int → Int → List Int → Int → Option (Bool)
 | 0, _, _, _, _, _, _, _, _, _, _, _, _, _ => none
 | k + 1, x0, x3, x7, x9, x0z, x1z, x2z, x3z, x4z, x5z, x6z, x7z, x8z => (iov_Scatter.f k x5z x6z x7 x4z).bind fun bt497 => ((iov_Gather.f k bt497.2.2.1 bt497.2.2.2 x7).bind fun bt503 => ((iov_Total.f k x7).bind fun bt511 => ((gangwaylaw19_num.f bt497.2.1).bind fun t513 => (if t513 = 0 then ((gangwaylaw19_num.f bt503.2.1).bind fun t514 => (if t514 = 0 then ((gangwaylaw19_num.f bt511.2).bind fun t515 => (if t515 = 0 then (if bt511.1 = x9 then (if (bt503.1.length : Int) = x9 then (if bt497.1 = (mn x9 (x4z.length : Int)) then (if 0 ≤ bt497.1 then (if bt497.1 ≤ (bt503.1.length : Int) then (if bt497.1 ≤ (x4z.length : Int) then ((gangwayref0_EqBytes.f k (bt503.1.take (bt497.1 : Int).toNat) (x4z.take (bt497.1 : Int).toNat)).bind fun t521 => (if t521 = true then ((mem_Memory_Read.f bt503.2.2.1 bt503.2.2.2 0 (x7z.length : Int)).bind fun bt541 => ((gangwaylaw19_num.f bt541.2.1).bind fun t549 => (if t549 = 0 then (if (bt541.1.length : Int) = (x7z.length : Int) then (gangwaylaw19_IovBack.l2 k x0 x3 x7 bt541.1 0 x7z x8z) else (none)) else (none)))) else (none))) else (none)) else (none)) else (none)) else (none)) else (none)) else (none)) else (none))) else (none))) else (none)))))
def gangwaylaw19_IovBack.l2 : Nat → List (S26) → Int → List (S50) → List Int → Int → List Int → Int → Option (Bool)
 | 0, _, _, _, _, _, _, _ => none
 | k + 1, x0, x3, x7, x18, x20, x7z, x8z => if x20 < (x18.length : Int) then (gangwaylaw19_IovBack.l3 k x0 x3 x7 x18 x20 false 0 x7z x8z) else (gangwaylaw19_IovBack.l0 k x0 (wrap64 (x3 + 1)))
def gangwaylaw19_IovBack.l3 : Nat → List (S26) → Int → List (S50) → List Int → Int → Bool → Int → List Int → Int → Option (Bool)
 | 0, _, _, _, _, _, _, _, _, _ => none
 | k + 1, x0, x3, x7, x18, x20, x21, x22, x7z, x8z => if x22 < (x7.length : Int) then (if x21 = true then (gangwaylaw19_IovBack.l3 k x0 x3 x7 x18 x20 true (wrap64 (x22 + 1)) x7z x8z) else (if 0 ≤ x22 then (if x20 ≥ ((rd_T50 x7 x22).f0) then (gangwaylaw19_IovBack.l3 k x0 x3 x7 x18 x20 (decide (x20 < (wrap64 (((rd_T50 x7 x22).f0) + ((rd_T50 x7 x22).f1))))) (wrap64 (x22 + 1)) x7z x8z) else (gangwaylaw19_IovBack.l3 k x0 x3 x7 x18 x20 false (wrap64 (x22 + 1)) x7z x8z)) else (none))) else (if x21 = true then (gangwaylaw19_IovBack.j6 k x0 x3 x7 x18 x20 false x7z x8z) else (if 0 ≤ x20 then (if x20 < (x18.length : Int) then (if x20 < (x7z.length : Int) then (gangwaylaw19_IovBack.j6 k x0 x3 x7 x18 x20 ((rd x18 x20) != (rd x7z x20)) x7z x8z) else (none)) else (none)) else (none)))
def gangwaylaw19_IovBack.j6 : Nat → List (S26) → Int → List (S50) → List Int → Int → Bool → List Int → Int → Option (Bool)
 | 0, _, _, _, _, _, _, _, _ => none
 | k + 1, x0, x3, x7, x18, x20, x219, x7z, x8z => if x219 = true then (none) else (if x20 > 1000 then (if x20 < (wrap64 ((x18.length : Int) - 5)) then (gangwaylaw19_IovBack.l2 k x0 x3 x7 x18 (wrap64 ((wrap64 ((x18.length : Int) - 5)) + 1)) x7z x8z) else (gangwaylaw19_IovBack.l2 k x0 x3 x7 x18 (wrap64 (x20 + 1)) x7z x8z)) else (gangwaylaw19_IovBack.l2 k x0 x3 x7 x18 (wrap64 (x20 + 1)) x7z x8z))
def gangwaylaw19_IovBack.l1 : Nat → List (S26) → Int → List (S50) → Int → Int → Int → List Int → Int → Int → List (S50) → List Int → List Int → Int → List Int → Int → Option (Bool)
 | 0, _, _, _, _, _, _, _, _, _, _, _, _, _, _, _ => none
 | k + 1, x0, x3, x7, x8, x9, x10, x0z, x1z, x2z, x3z, x4z, x5z, x6z, x7z, x8z => if x10 < (x3z.length : Int) then (if x10 < 10 then (if 0 ≤ x10 then (if x7.length < 8796093022208 then (gangwaylaw19_IovBack.l1 k x0 x3 (x7 ++ [(⟨x8, wrap64 (Int.tmod (IntKind.u64.wrap ((rd_T50 x3z x10).f1)) 20)⟩ : S50)]) (wrap64 ((wrap64 (x8 + (wrap64 (Int.tmod (IntKind.u64.wrap ((rd_T50 x3z x10).f1)) 20)))) + x10)) (wrap64 (x9 + (wrap64 (Int.tmod (IntKind.u64.wrap ((rd_T50 x3z x10).f1)) 20)))) (wrap64 (x10 + 1)) x0z x1z x2z x3z x4z x5z x6z x7z x8z) else (none)) else (none)) else (gangwaylaw19_IovBack.j3 k x0 x3 x7 x9 x0z x1z x2z x3z x4z x5z x6z x7z x8z)) else (gangwaylaw19_IovBack.j3 k x0 x3 x7 x9 x0z x1z x2z x3z x4z x5z x6z x7z x8z)
end
def gangwaylaw19_IovBack.f (k : Nat) (l0 : List (S26)) : Option (Bool) := gangwaylaw19_IovBack.l0 k l0 0
theorem gangwaylaw19_IovBack.mono_l : ∀ k, (∀ y0 y1, LeO (gangwaylaw19_IovBack.l0 k y0 y1) (gangwaylaw19_IovBack.l0 (k + 1) y0 y1)) ∧ (∀ y0 y1 y2, LeO (gangwaylaw19_IovBack.j1 k y0 y1 y2) (gangwaylaw19_IovBack.j1 (k + 1) y0 y1 y2)) ∧ (∀ y0 y1 y2 y3 y4 y5 y6 y7 y8 y9 y10 y11 y12, LeO (gangwaylaw19_IovBack.j3 k y0 y1 y2 y3 y4 y5 y6 y7 y8 y9 y10 y11 y12) (gangwaylaw19_IovBack.j3 (k + 1) y0 y1 y2 y3 y4 y5 y6 y7 y8 y9 y10 y11 y12)) ∧ (∀ y0 y1 y2 y3 y4 y5 y6, LeO (gangwaylaw19_IovBack.l2 k y0 y1 y2 y3 y4 y5 y6) (gangwaylaw19_IovBack.l2 (k + 1) y0 y1 y2 y3 y4 y5 y6)) ∧ (∀ y0 y1 y2 y3 y4 y5 y6 y7 y8, LeO (gangwaylaw19_IovBack.l3 k y0 y1 y2 y3 y4 y5 y6 y7 y8) (gangwaylaw19_IovBack.l3 (k + 1) y0 y1 y2 y3 y4 y5 y6 y7 y8)) ∧ (∀ y0 y1 y2 y3 y4 y5 y6 y7, LeO (gangwaylaw19_IovBack.j6 k y0 y1 y2 y3 y4 y5 y6 y7) (gangwaylaw19_IovBack.j6 (k + 1) y0 y1 y2 y3 y4 y5 y6 y7)) ∧ (∀ y0 y1 y2 y3 y4 y5 y6 y7 y8 y9 y10 y11 y12 y13 y14, LeO (gangwaylaw19_IovBack.l1 k y0 y1 y2 y3 y4 y5 y6 y7 y8 y9 y10 y11 y12 y13 y14) (gangwaylaw19_IovBack.l1 (k + 1) y0 y1 y2 y3 y4 y5 y6 y7 y8 y9 y10 y11 y12 y13 y14))
 | 0 => ⟨fun _ _ r h => by simp [gangwaylaw19_IovBack.l0] at h, fun _ _ _ r h => by simp [gangwaylaw19_IovBack.j1] at h, fun _ _ _ _ _ _ _ _ _ _ _ _ _ r h => by simp [gangwaylaw19_IovBack.j3] at h, fun _ _ _ _ _ _ _ r h => by simp [gangwaylaw19_IovBack.l2] at h, fun _ _ _ _ _ _ _ _ _ r h => by simp [gangwaylaw19_IovBack.l3] at h, fun _ _ _ _ _ _ _ _ r h => by simp [gangwaylaw19_IovBack.j6] at h, fun _ _ _ _ _ _ _ _ _ _ _ _ _ _ _ r h => by simp [gangwaylaw19_IovBack.l1] at h⟩
 | k + 1 => by
  obtain ⟨ih0, ih1, ih2, ih3, ih4, ih5, ih6⟩ := gangwaylaw19_IovBack.mono_l k
  refine ⟨?_, ?_, ?_, ?_, ?_, ?_, ?_⟩
  ·intro y0 y1
   unfold gangwaylaw19_IovBack.l0
   repeat' first
   | (with_reducible apply ih0)
   | (with_reducible apply ih1)
   | (with_reducible apply ih2)
   | (with_reducible apply ih3)
   | (with_reducible apply ih4)
   | (with_reducible apply ih5)
   | (with_reducible apply ih6)
   | (with_reducible exact gangwaylaw19_Both.mono _ _)
   | (with_reducible exact gangwaylaw19_heavy.mono _ _ _ _ _ _)
   | (with_reducible exact gangwaylaw19_wakes.mono _)
   | (with_reducible exact gangwayref0_EqBytes.mono _ _ _)
   | (with_reducible exact iov_Gather.mono _ _ _ _)
   | (with_reducible exact iov_Scatter.mono _ _ _ _ _)
   | (with_reducible exact iov_Total.mono _ _)
   | (with_reducible exact LeO.refl _)
   | (with_reducible exact LeO.none _)
   | (with_reducible refine LeO.ite ?_ ?_)
   | (with_reducible refine LeO.bind ?_ (fun _ => ?_))
   | apply ih0
   | apply ih1
   | apply ih2
   | apply ih3
   | apply ih4
   | apply ih5
   | apply ih6
   | exact gangwaylaw19_Both.mono _ _
   | exact gangwaylaw19_heavy.mono _ _ _ _ _ _
   | exact gangwaylaw19_wakes.mono _
   | exact gangwayref0_EqBytes.mono _ _ _
   | exact iov_Gather.mono _ _ _ _
   | exact iov_Scatter.mono _ _ _ _ _
   | exact iov_Total.mono _ _
   | exact LeO.none _
   | refine LeO.ite ?_ ?_
   | refine LeO.bind ?_ (fun _ => ?_)
  ·intro y0 y1 y2
   unfold gangwaylaw19_IovBack.j1
   repeat' first
   | (with_reducible apply ih0)
   | (with_reducible apply ih1)
   | (with_reducible apply ih2)
   | (with_reducible apply ih3)
   | (with_reducible apply ih4)
   | (with_reducible apply ih5)
   | (with_reducible apply ih6)
   | (with_reducible exact gangwaylaw19_Both.mono _ _)
   | (with_reducible exact gangwaylaw19_heavy.mono _ _ _ _ _ _)
   | (with_reducible exact gangwaylaw19_wakes.mono _)
   | (with_reducible exact gangwayref0_EqBytes.mono _ _ _)
   | (with_reducible exact iov_Gather.mono _ _ _ _)
   | (with_reducible exact iov_Scatter.mono _ _ _ _ _)
   | (with_reducible exact iov_Total.mono _ _)
   | (with_reducible exact LeO.refl _)
   | (with_reducible exact LeO.none _)
   | (with_reducible refine LeO.ite ?_ ?_)
   | (with_reducible refine LeO.bind ?_ (fun _ => ?_))
   | apply ih0
   | apply ih1
   | apply ih2
   | apply ih3
   | apply ih4
   | apply ih5
   | apply ih6
   | exact gangwaylaw19_Both.mono _ _
   | exact gangwaylaw19_heavy.mono _ _ _ _ _ _
   | exact gangwaylaw19_wakes.mono _
   | exact gangwayref0_EqBytes.mono _ _ _
   | exact iov_Gather.mono _ _ _ _
   | exact iov_Scatter.mono _ _ _ _ _
   | exact iov_Total.mono _ _
   | exact LeO.none _
   | refine LeO.ite ?_ ?_
   | refine LeO.bind ?_ (fun _ => ?_)
  ·intro y0 y1 y2 y3 y4 y5 y6 y7 y8 y9 y10 y11 y12
   unfold gangwaylaw19_IovBack.j3
   repeat' first
   | (with_reducible apply ih0)
   | (with_reducible apply ih1)
   | (with_reducible apply ih2)
   | (with_reducible apply ih3)
   | (with_reducible apply ih4)
   | (with_reducible apply ih5)
   | (with_reducible apply ih6)
   | (with_reducible exact gangwaylaw19_Both.mono _ _)
   | (with_reducible exact gangwaylaw19_heavy.mono _ _ _ _ _ _)
   | (with_reducible exact gangwaylaw19_wakes.mono _)
   | (with_reducible exact gangwayref0_EqBytes.mono _ _ _)
   | (with_reducible exact iov_Gather.mono _ _ _ _)
   | (with_reducible exact iov_Scatter.mono _ _ _ _ _)
   | (with_reducible exact iov_Total.mono _ _)
   | (with_reducible exact LeO.refl _)
   | (with_reducible exact LeO.none _)
   | (with_reducible refine LeO.ite ?_ ?_)
   | (with_reducible refine LeO.bind ?_ (fun _ => ?_))
   | apply ih0
   | apply ih1
   | apply ih2
   | apply ih3
   | apply ih4
   | apply ih5
   | apply ih6
   | exact gangwaylaw19_Both.mono _ _
   | exact gangwaylaw19_heavy.mono _ _ _ _ _ _
   | exact gangwaylaw19_wakes.mono _
   | exact gangwayref0_EqBytes.mono _ _ _
   | exact iov_Gather.mono _ _ _ _
   | exact iov_Scatter.mono _ _ _ _ _
   | exact iov_Total.mono _ _
   | exact LeO.none _
   | refine LeO.ite ?_ ?_
   | refine LeO.bind ?_ (fun _ => ?_)
  ·intro y0 y1 y2 y3 y4 y5 y6
   unfold gangwaylaw19_IovBack.l2
   repeat' first
   | (with_reducible apply ih0)
   | (with_reducible apply ih1)
   | (with_reducible apply ih2)
   | (with_reducible apply ih3)
   | (with_reducible apply ih4)
   | (with_reducible apply ih5)
   | (with_reducible apply ih6)
   | (with_reducible exact gangwaylaw19_Both.mono _ _)
   | (with_reducible exact gangwaylaw19_heavy.mono _ _ _ _ _ _)
   | (with_reducible exact gangwaylaw19_wakes.mono _)
   | (with_reducible exact gangwayref0_EqBytes.mono _ _ _)
   | (with_reducible exact iov_Gather.mono _ _ _ _)
   | (with_reducible exact iov_Scatter.mono _ _ _ _ _)
   | (with_reducible exact iov_Total.mono _ _)
   | (with_reducible exact LeO.refl _)
   | (with_reducible exact LeO.none _)
   | (with_reducible refine LeO.ite ?_ ?_)
   | (with_reducible refine LeO.bind ?_ (fun _ => ?_))
   | apply ih0
   | apply ih1
   | apply ih2
   | apply ih3
   | apply ih4
   | apply ih5
   | apply ih6
   | exact gangwaylaw19_Both.mono _ _
   | exact gangwaylaw19_heavy.mono _ _ _ _ _ _
   | exact gangwaylaw19_wakes.mono _
   | exact gangwayref0_EqBytes.mono _ _ _
   | exact iov_Gather.mono _ _ _ _
   | exact iov_Scatter.mono _ _ _ _ _
   | exact iov_Total.mono _ _
   | exact LeO.none _
   | refine LeO.ite ?_ ?_
   | refine LeO.bind ?_ (fun _ => ?_)
  ·intro y0 y1 y2 y3 y4 y5 y6 y7 y8
   unfold gangwaylaw19_IovBack.l3
   repeat' first
   | (with_reducible apply ih0)
   | (with_reducible apply ih1)
   | (with_reducible apply ih2)
   | (with_reducible apply ih3)
   | (with_reducible apply ih4)
   | (with_reducible apply ih5)
   | (with_reducible apply ih6)
   | (with_reducible exact gangwaylaw19_Both.mono _ _)
   | (with_reducible exact gangwaylaw19_heavy.mono _ _ _ _ _ _)
   | (with_reducible exact gangwaylaw19_wakes.mono _)
   | (with_reducible exact gangwayref0_EqBytes.mono _ _ _)
   | (with_reducible exact iov_Gather.mono _ _ _ _)
   | (with_reducible exact iov_Scatter.mono _ _ _ _ _)
   | (with_reducible exact iov_Total.mono _ _)
   | (with_reducible exact LeO.refl _)
   | (with_reducible exact LeO.none _)
   | (with_reducible refine LeO.ite ?_ ?_)
   | (with_reducible refine LeO.bind ?_ (fun _ => ?_))
   | apply ih0
   | apply ih1
   | apply ih2
   | apply ih3
   | apply ih4
   | apply ih5
   | apply ih6
   | exact gangwaylaw19_Both.mono _ _
   | exact gangwaylaw19_heavy.mono _ _ _ _ _ _
   | exact gangwaylaw19_wakes.mono _
   | exact gangwayref0_EqBytes.mono _ _ _
   | exact iov_Gather.mono _ _ _ _
   | exact iov_Scatter.mono _ _ _ _ _
   | exact iov_Total.mono _ _
   | exact LeO.none _
   | refine LeO.ite ?_ ?_
   | refine LeO.bind ?_ (fun _ => ?_)
  ·intro y0 y1 y2 y3 y4 y5 y6 y7
   unfold gangwaylaw19_IovBack.j6
   repeat' first
   | (with_reducible apply ih0)
   | (with_reducible apply ih1)
   | (with_reducible apply ih2)
   | (with_reducible apply ih3)
   | (with_reducible apply ih4)
   | (with_reducible apply ih5)
   | (with_reducible apply ih6)
   | (with_reducible exact gangwaylaw19_Both.mono _ _)
   | (with_reducible exact gangwaylaw19_heavy.mono _ _ _ _ _ _)
   | (with_reducible exact gangwaylaw19_wakes.mono _)
   | (with_reducible exact gangwayref0_EqBytes.mono _ _ _)
   | (with_reducible exact iov_Gather.mono _ _ _ _)
   | (with_reducible exact iov_Scatter.mono _ _ _ _ _)
   | (with_reducible exact iov_Total.mono _ _)
   | (with_reducible exact LeO.refl _)
   | (with_reducible exact LeO.none _)
   | (with_reducible refine LeO.ite ?_ ?_)
   | (with_reducible refine LeO.bind ?_ (fun _ => ?_))
   | apply ih0
   | apply ih1
   | apply ih2
   | apply ih3
   | apply ih4
   | apply ih5
   | apply ih6
   | exact gangwaylaw19_Both.mono _ _
   | exact gangwaylaw19_heavy.mono _ _ _ _ _ _
   | exact gangwaylaw19_wakes.mono _
   | exact gangwayref0_EqBytes.mono _ _ _
   | exact iov_Gather.mono _ _ _ _
   | exact iov_Scatter.mono _ _ _ _ _
   | exact iov_Total.mono _ _
   | exact LeO.none _
   | refine LeO.ite ?_ ?_
   | refine LeO.bind ?_ (fun _ => ?_)
  ·intro y0 y1 y2 y3 y4 y5 y6 y7 y8 y9 y10 y11 y12 y13 y14
   unfold gangwaylaw19_IovBack.l1
   repeat' first
   | (with_reducible apply ih0)
   | (with_reducible apply ih1)
   | (with_reducible apply ih2)
   | (with_reducible apply ih3)
   | (with_reducible apply ih4)
   | (with_reducible apply ih5)
   | (with_reducible apply ih6)
   | (with_reducible exact gangwaylaw19_Both.mono _ _)
   | (with_reducible exact gangwaylaw19_heavy.mono _ _ _ _ _ _)
   | (with_reducible exact gangwaylaw19_wakes.mono _)
   | (with_reducible exact gangwayref0_EqBytes.mono _ _ _)
   | (with_reducible exact iov_Gather.mono _ _ _ _)
   | (with_reducible exact iov_Scatter.mono _ _ _ _ _)
   | (with_reducible exact iov_Total.mono _ _)
   | (with_reducible exact LeO.refl _)
   | (with_reducible exact LeO.none _)
   | (with_reducible refine LeO.ite ?_ ?_)
   | (with_reducible refine LeO.bind ?_ (fun _ => ?_))
   | apply ih0
   | apply ih1
   | apply ih2
   | apply ih3
   | apply ih4
   | apply ih5
   | apply ih6
   | exact gangwaylaw19_Both.mono _ _
   | exact gangwaylaw19_heavy.mono _ _ _ _ _ _
   | exact gangwaylaw19_wakes.mono _
   | exact gangwayref0_EqBytes.mono _ _ _
   | exact iov_Gather.mono _ _ _ _
   | exact iov_Scatter.mono _ _ _ _ _
   | exact iov_Total.mono _ _
   | exact LeO.none _
   | refine LeO.ite ?_ ?_
   | refine LeO.bind ?_ (fun _ => ?_)
theorem gangwaylaw19_IovBack.mono : ∀ a0 k, LeO (gangwaylaw19_IovBack.f k a0) (gangwaylaw19_IovBack.f (k + 1) a0) := by
 intro a0 k
 obtain ⟨ih0, ih1, ih2, ih3, ih4, ih5, ih6⟩ := gangwaylaw19_IovBack.mono_l k
 unfold gangwaylaw19_IovBack.f
 repeat' first
   | (with_reducible apply ih0)
   | (with_reducible apply ih1)
   | (with_reducible apply ih2)
   | (with_reducible apply ih3)
   | (with_reducible apply ih4)
   | (with_reducible apply ih5)
   | (with_reducible apply ih6)
   | (with_reducible exact gangwaylaw19_Both.mono _ _)
   | (with_reducible exact gangwaylaw19_heavy.mono _ _ _ _ _ _)
   | (with_reducible exact gangwaylaw19_wakes.mono _)
   | (with_reducible exact gangwayref0_EqBytes.mono _ _ _)
   | (with_reducible exact iov_Gather.mono _ _ _ _)
   | (with_reducible exact iov_Scatter.mono _ _ _ _ _)
   | (with_reducible exact iov_Total.mono _ _)
   | (with_reducible exact LeO.refl _)
   | (with_reducible exact LeO.none _)
   | (with_reducible refine LeO.ite ?_ ?_)
   | (with_reducible refine LeO.bind ?_ (fun _ => ?_))
   | apply ih0
   | apply ih1
   | apply ih2
   | apply ih3
   | apply ih4
   | apply ih5
   | apply ih6
   | exact gangwaylaw19_Both.mono _ _
   | exact gangwaylaw19_heavy.mono _ _ _ _ _ _
   | exact gangwaylaw19_wakes.mono _
   | exact gangwayref0_EqBytes.mono _ _ _
   | exact iov_Gather.mono _ _ _ _
   | exact iov_Scatter.mono _ _ _ _ _
   | exact iov_Total.mono _ _
   | exact LeO.none _
   | refine LeO.ite ?_ ?_
   | refine LeO.bind ?_ (fun _ => ?_)
def gangwaylaw19_IovBack.T23 : Bool × List (List Nat × List Nat) := (true, [([], []), ([0], [0]), ([1], [1]), ([2, 1], [2]), ([3], [3]), ([4, 3, 3], [3, 4]), ([5, 3], [3, 5]), ([3, 6], [3, 6]), ([7, 5], [7]), ([8], [8]), ([9, 8, 8], [8, 9]), ([10, 8], [8, 10]), ([8, 11], [8, 11]), ([12, 10], [12]), ([13], [13]), ([13], [13]), ([14, 15, 13], [13, 14, 15]), ([13, 16], [13, 16]), ([17, 13], [17]), ([18], [18]), ([19, 18], [18, 19]), ([18], [18]), ([20, 21, 18], [18, 20, 21]), ([18, 22], [18, 22]), ([23, 18], [23]), ([24], [24]), ([24], [24]), ([24], [24]), ([27, 24], [24, 27]), ([28, 24], [24, 28]), ([26, 29, 24], [24, 26, 29]), ([25, 30, 24], [24, 25, 30]), ([24, 31], [24, 31]), ([32, 24], [32]), ([33], [33]), ([33], [33]), ([34, 35, 33], [33, 34, 35]), ([33], [33]), ([37, 33], [33, 37]), ([33], [33]), ([38, 39, 33], [33, 38, 39]), ([36, 40, 33, 33], [33, 36, 40]), ([41, 33], [33, 41]), ([33, 42], [33, 42])])
def gangwaylaw19_IovBack.B23 : List Nat := [0, 1, 3, 7, 15, 31, 63, 127, 255, 511, 1023, 2047, 4095, 8191, 16383, 16383, 65535, 131071, 262143, 524287, 1048575, 524287, 4194303, 8388607, 16777215, 33554431, 33554431, 33554431, 167772159, 436207615, 1040187391, 2147483647, 4294967295, 8589934591, 17179869183, 17179869183, 68719476735, 17179869183, 154618822655, 17179869183, 979252543487, 2199023255551, 4398046511103, 8796093022207]
theorem gangwaylaw19_IovBack.tab23 : rtab .any (opsOf Try.f4 23) = gangwaylaw19_IovBack.T23 := by kernel_rfl
theorem gangwaylaw19_IovBack.bits23 : waitsOk gangwaylaw19_IovBack.T23.2 gangwaylaw19_IovBack.B23 = true := by kernel_rfl
def gangwaylaw19_IovBack.T35 : Bool × List (List Nat × List Nat) := (true, [([], []), ([0], [0]), ([1], [1]), ([1], [1]), ([1], [1]), ([3, 4, 1], [1, 3, 4]), ([5, 1], [1, 5]), ([6, 1], [1, 6]), ([2, 7, 1], [1, 2, 7]), ([8, 1, 1], [1, 8]), ([9], [9]), ([9], [9]), ([9], [9]), ([11, 12, 9], [9, 11, 12]), ([13, 9], [9, 13]), ([14, 9], [9, 14]), ([9], [9]), ([9], [9]), ([16, 17, 9], [9, 16, 17]), ([18, 9], [9, 18]), ([19, 9], [9, 19]), ([15, 20, 9], [9, 15, 20]), ([10, 21, 9], [9, 10, 21]), ([9, 22, 1], [1, 9, 22]), ([1, 23], [1, 23]), ([24, 9, 0, 1, 2, 3, 4, 5, 6, 7, 8, 9, 10, 11, 12, 13, 14, 15, 16, 17, 18, 19, 20, 21, 22, 23, 24], [0, 24])])
def gangwaylaw19_IovBack.B35 : List Nat := [0, 1, 3, 3, 3, 27, 59, 123, 255, 511, 1023, 1023, 1023, 7167, 15359, 31743, 1023, 1023, 197631, 459775, 984063, 2096127, 4194303, 8388607, 16777215, 33554431]
theorem gangwaylaw19_IovBack.tab35 : rtab .any (opsOf Try.f4 35) = gangwaylaw19_IovBack.T35 := by kernel_rfl
theorem gangwaylaw19_IovBack.bits35 : waitsOk gangwaylaw19_IovBack.T35.2 gangwaylaw19_IovBack.B35 = true := by kernel_rfl
def gangwaylaw19_IovBack.T36 : Bool × List (List Nat × List Nat) := (true, [([], []), ([0], [0]), ([1], [1]), ([2], [2]), ([2], [2]), ([3, 4, 2], [2, 3, 4]), ([5, 2], [2, 5]), ([2], [2]), ([7, 2], [2, 7]), ([8, 2], [2, 8]), ([9, 2], [2, 9]), ([2], [2]), ([10, 11, 2], [2, 10, 11]), ([12, 2], [2, 12]), ([6, 13, 2], [2, 6, 13]), ([2, 14], [2, 14])])
def gangwaylaw19_IovBack.B36 : List Nat := [0, 1, 3, 7, 7, 31, 63, 7, 135, 391, 903, 7, 3975, 8071, 16383, 32767]
theorem gangwaylaw19_IovBack.tab36 : rtab .any (opsOf Try.f4 36) = gangwaylaw19_IovBack.T36 := by kernel_rfl
theorem gangwaylaw19_IovBack.bits36 : waitsOk gangwaylaw19_IovBack.T36.2 gangwaylaw19_IovBack.B36 = true := by kernel_rfl
theorem gangwaylaw19_IovBack.aa_0 {p : Prop} (h : p := by repeat (first | (with_reducible first | exact HB.out | apply below_alloc | apply pw_below_drewN | apply below_drew1 | refine below_set ?_ GE479.out) | exact HB.out)) : p := h
theorem gangwaylaw19_IovBack.aa_1 {p : Prop} (h : p := by (try simp only [List.map_toArray, List.map_cons, List.map_nil]); first | done | rfl | (simp only [List.length_drop, List.length_take]; rfl)) : p := h
theorem gangwaylaw19_IovBack.aa_2 {p : Prop} (h : p := by first | rfl | (simp; done) | (simp [*]; done)) : p := h
theorem gangwaylaw19_IovBack.aa_3 {p : Prop} (h : p := by first | (with_reducible assumption) | assumption) : p := h
theorem gangwaylaw19_IovBack.aa_4 {p : Prop} (h : p := by repeat (first | (with_reducible first | exact HB.out | apply below_alloc | apply pw_below_drewN | apply below_drew1 | refine below_set ?_ (IsS72.ge HI486.out) | refine below_set ?_ (IsS57.ge HI492.out) | refine below_set ?_ GE479.out) | exact HB.out)) : p := h
theorem gangwaylaw19_IovBack.aa_5 {p : Prop} (h : p := by repeat (first | (with_reducible first | exact HI492.out | apply IsS57.alloc | apply IsS57.drewN | apply IsS57.drew | apply IsS57.set_0 | apply IsS57.set_1 | refine IsS57.far ?_ NB492_479.out _) | exact HI492.out)) : p := h
theorem gangwaylaw19_IovBack.aa_6 {p : Prop} (h : p := by (with_reducible repeat (first | refine blk_drewN ?_ _ | refine blk_drew ?_ | refine blk_alloc ?_ _)); exact BK479.out) : p := h
theorem gangwaylaw19_IovBack.aa_7 {p : Prop} (h : p := by repeat (first | (with_reducible first | exact HB.out | apply below_alloc | apply pw_below_drewN | apply below_drew1) | exact HB.out)) : p := h
theorem gangwaylaw19_IovBack.aa_8 {p : Prop} (h : p := by (with_reducible repeat (first | apply Kd.R_alloc | apply Kd.R_drewN | apply Kd.R_drew)); exact HO_7z.out) : p := h
theorem gangwaylaw19_IovBack.aa_9 {p : Prop} (h : p := by repeat (first | (with_reducible first | exact HI486.out | apply IsS72.alloc | apply IsS72.drewN | apply IsS72.drew | apply IsS72.set_0 | apply IsS72.set_1 | refine IsS72.far ?_ NB486_479.out _) | exact HI486.out)) : p := h
theorem gangwaylaw19_IovBack.aa_10 {p : Prop} (h : p := by (with_reducible repeat (first | apply Kd.R_alloc | apply Kd.R_drewN | apply Kd.R_drew)); exact HO_5z.out) : p := h
theorem gangwaylaw19_IovBack.aa_11 {p : Prop} (h : p := by (with_reducible repeat (first | apply Kd.R_alloc | apply Kd.R_drewN | apply Kd.R_drew)); exact HO_7.out) : p := h
theorem gangwaylaw19_IovBack.aa_12 {p : Prop} (h : p := by (with_reducible repeat (first | apply Kd.R_alloc | apply Kd.R_drewN | apply Kd.R_drew)); exact HO_18.out) : p := h
theorem gangwaylaw19_IovBack.am_ {p : Prop} (h : p) : Aside0 p := Aside0.mk h
theorem gangwaylaw19_IovBack.bm_ {α β : Type _} {o : Option α} {f : α → Option β} {b : β} (h : o.bind f = some b) : ∃ a, o = some a ∧ f a = some b := Option.bind_eq_some_iff.mp h
set_option maxHeartbeats 8000000 in
set_option maxRecDepth 100000 in
theorem gangwaylaw19_IovBack.calls (k : Nat) (A0 : Option Addr) (c0 : Nat) (l0 : List (S26)) (r : Bool) (w : World) (hr0 : Kd.C k26 w A0 l0.length l0) (hc0 : l0.length ≤ c0) (h : gangwaylaw19_IovBack.f k l0 = some r) :
  Calls Try.prog 4 #[.slice A0 l0.length c0] w fun e w' => e = .returned (.bool r) ∧ Below w.heap.size w w' := by
 have hu26 := Try.underlying26
 have hu50 := Try.underlying50
 have HR0 := am_ hr0
 have HC0 := am_ hc0
 clear hr0 hc0
 have HB := am_ (Below.refl w.heap.size w)
 have H : (gangwaylaw19_IovBack.l0 k l0 0) = some r := h
 clear h
 have H' := am_ H
 clear H
 go_enter Try.func4, Try.ntmps4
 go_wp2
 go_loopg [3] k (fun kq v3 w' => ∃ (x3_1 : Int), v3 = .int .i64 x3_1 ∧ Aside0 (gangwaylaw19_IovBack.l0 kq l0 x3_1 = some r) ∧ Aside0 (kq ≤ k) ∧ Aside0 (Below w.heap.size w w'))
 case atStart => exact ⟨(0), aa_2, H', ⟨Nat.le_refl _⟩, ⟨aa_7⟩⟩
 case round =>
 as_aux_lemma =>
 clear H'
 obtain ⟨x3_1, rfl, HA, HK1, HB⟩ := hrel
 cases gk with
 | zero => exact absurd HA.out (by simp [gangwaylaw19_IovBack.l0])
 | succ k1 =>
 have H := HA.out
 clear HA
 simp only [gangwaylaw19_IovBack.l0] at H
 have HC2 := am_ H
 clear H
 go_upto_region 2 with (fail)
 go_cut [30] (fun v30 wc => ∃ (kq : Nat) (x30_1 : Bool), v30 = .bool x30_1 ∧ Aside0 (j1 kq l0 x3_1 x30_1 = some r) ∧ Aside0 (kq ≤ k1) ∧ Aside0 (Below w.heap.size w wc))
 case first =>
  as_aux_lemma =>
  have H := HC2.out
  clear HC2
  by_cases c3 : x3_1 < (l0.length : Int)
  ·rw [if_pos c3] at H
   have c3b0 : decide (x3_1 < (l0.length : Int)) = true := decide_eq_true c3
   clear c3
   (first | rw [c3b0] | (simp only [i64_w, i32_w]; rw [c3b0]) | skip)
   have H' := am_ H
   clear H
   go_wp2
   go_meet
   case rel => exact ⟨_, (decide (x3_1 < 8)), aa_2, H', ⟨by have := HK1.out; first | omega | exact Nat.le_refl _⟩, ⟨aa_7⟩⟩
  rw [if_neg c3] at H
  have c3b0 : decide (x3_1 < (l0.length : Int)) = false := decide_eq_false c3
  clear c3
  (first | rw [c3b0] | (simp only [i64_w, i32_w]; rw [c3b0]) | skip)
  have H' := am_ H
  clear H
  go_wp2
  go_meet
  case rel => exact ⟨_, (false), aa_2, H', ⟨by have := HK1.out; first | omega | exact Nat.le_refl _⟩, ⟨aa_7⟩⟩
 case rest =>
 as_aux_lemma =>
 clear HC2
 try clear p2
 try clear c3
 try clear c3b0
 obtain ⟨kq, x30_1, rfl, HA, HJ1, HB⟩ := hcut
 cases kq with
 | zero => exact absurd HA.out (by simp [j1])
 | succ kj1 =>
 have H := HA.out
 clear HA
 simp only [j1] at H
 by_cases c4 : x30_1 = true
 rotate_left
 ·replace c4 := Bool.eq_false_iff.mpr c4
  subst c4
  have H1 : ((gangwaylaw19_wakes.f kj1).bind fun t477 => (some t477)) = some r := by rw [if_neg (show ¬ (false = true) by decide)] at H; exact H
  clear H
  have H := H1
  clear H1
  replace H := bm_ H
  obtain ⟨t477, A920, H⟩ := H
  replace H : (some t477) = some r := H
  have A92 := am_ A920
  clear A920
  obtain rfl := Option.some.inj H
  go_wp2_with (first | ((with_reducible refine gate_callee (f := 20) rfl ?_); refine goesL_ (some 232) rfl rfl Try.func20 (by kernel_rfl) rfl #[] rfl aa_1 ?_; (with_reducible refine (gangwaylaw19_wakes.calls kj1  t477 _ A92.out).mono ?_); rintro e w93 ⟨rfl, hb⟩; refine ⟨_, rfl, ?_⟩; have n0_ := am_ (below_step aa_7 hb); clear HB; have HB := n0_; clear n0_; (try clear hb); (try clear hb2); (try clear hk); (try clear hi)))
  go_ret
  exact ⟨by first | rfl | (simp [errW_none, errW_some] <;> rfl) | (simp [*, errW_none, errW_some] <;> rfl), by repeat (first | (with_reducible first | exact HB.out | apply below_alloc | apply pw_below_drewN | apply below_drew1) | exact HB.out)⟩
 as_aux_lemma =>
 subst c4
 have H1 : (if 0 ≤ x3_1 then (if x3_1 < (l0.length : Int) then ((gangwaylaw19_heavy.f kj1 ((rd_T26 l0 x3_1).f0) ((rd_T26 l0 x3_1).f1) ((rd_T26 l0 x3_1).f2) ((rd_T26 l0 x3_1).f3) ((rd_T26 l0 x3_1).f4)).bind fun t480 => (if t480 = true then (some true) else ((gangwaylaw19_Both.f kj1 ((rd_T26 l0 x3_1).f0)).bind fun bt481 => (if bt481.1 = true then (if bt481.2.2.2.1 = true then (gangwaylaw19_IovBack.l1 kj1 l0 x3_1 ([] : List (S50)) 100 0 0 ((rd_T26 l0 x3_1).f0) ((rd_T26 l0 x3_1).f1) ((rd_T26 l0 x3_1).f2) ((rd_T26 l0 x3_1).f3) ((rd_T26 l0 x3_1).f4) bt481.2.1 bt481.2.2.1 bt481.2.2.2.2.1 bt481.2.2.2.2.2) else (none)) else (none))))) else (none)) else (none)) = some r := by rw [if_pos rfl] at H; exact H
 clear H
 have H := H1
 clear H1
 by_cases c5 : 0 ≤ x3_1
 rotate_left
 ·rw [if_neg c5] at H
  exact absurd H (by simp)
 as_aux_lemma =>
 rw [if_pos c5] at H
 have c5b0 : decide (0 ≤ x3_1) = true := decide_eq_true c5
 clear c5
 by_cases c6 : x3_1 < (l0.length : Int)
 rotate_left
 ·rw [if_neg c6] at H
  exact absurd H (by simp)
 as_aux_lemma =>
 rw [if_pos c6] at H
 have c6b0 : decide (x3_1 < (l0.length : Int)) = true := decide_eq_true c6
 clear c6
 replace H := bm_ H
 obtain ⟨t480, A70, H⟩ := H
 replace H : (if t480 = true then (some true) else ((gangwaylaw19_Both.f kj1 ((rd_T26 l0 x3_1).f0)).bind fun bt481 => (if bt481.1 = true then (if bt481.2.2.2.1 = true then (gangwaylaw19_IovBack.l1 kj1 l0 x3_1 ([] : List (S50)) 100 0 0 ((rd_T26 l0 x3_1).f0) ((rd_T26 l0 x3_1).f1) ((rd_T26 l0 x3_1).f2) ((rd_T26 l0 x3_1).f3) ((rd_T26 l0 x3_1).f4) bt481.2.1 bt481.2.2.1 bt481.2.2.2.2.1 bt481.2.2.2.2.2) else (none)) else (none)))) = some r := H
 have A7 := am_ A70
 clear A70
 by_cases c8 : t480 = true
 ·subst c8
  have H1 : (some true) = some r := by rw [if_pos rfl] at H; exact H
  clear H
  have H := H1
  clear H1
  obtain rfl := Option.some.inj H
  have p478 : 0 ≤ (x3_1 : Int) := of_decide_eq_true aa_3
  have q478 : x3_1 < (l0.length : Int) := of_decide_eq_true aa_3
  obtain ⟨ad478, A478_0, c478_0, A478_3, c478_3, A478_4, c478_4, e478, hx478_0, hx478_1, hx478_2, hx478_3, hx478_4, hl478_0, hi478_0, hl478_3, hi478_3, hl478_4, hi478_4⟩ := at_T26 HR0.out x3_1 p478 q478
  cases e478
  replace hx478_0 := up HB hx478_0
  replace hx478_1 := up HB hx478_1
  replace hx478_2 := up HB hx478_2
  replace hx478_3 := up HB hx478_3
  replace hx478_4 := up HB hx478_4
  have HR478_0 := am_ hi478_0
  have HC478_0 := am_ hl478_0
  clear hi478_0 hl478_0
  have HR478_3 := am_ hi478_3
  have HC478_3 := am_ hl478_3
  clear hi478_3 hl478_3
  have HR478_4 := am_ hi478_4
  have HC478_4 := am_ hl478_4
  clear hi478_4 hl478_4
  replace p478 := eq_true p478
  replace q478 := eq_true q478
  go_wp2_with (first | ((with_reducible refine gate_dst (N := 4) rfl ?_); (try (refine gate_guard (by rfl) ?_; dsimp only)); refine box_event ?hg (N := 4) ?hd (cs := #[.slice none 0 0, .int .i64 0, .int .i64 0, .slice none 0 0, .slice none 0 0]) (t := 26) ?hr ?_; (case hd => rfl); (case hg => rfl); (case hr => first | (go_simp; done) | (go_simp; rfl)); intro gb479 hg w9 hbox hb; have n0_ := am_ (below_step aa_7 hb); have n1_ := am_ (hbox); have n2_ := am_ ((by rw [hg]; exact (below_size aa_7) : w.heap.size ≤ gb479)); have n3_ := am_ ((by rw [hg]; exact (below_size aa_7) : w.heap.size ≤ gb479)); clear HB; have HB := n0_; have BK479 := n1_; have GW479 := n2_; have GE479 := n3_; clear n0_ n1_ n2_ n3_; clear hb hbox hg; have hcz10_0 : w9.cell? ⟨gb479, 0, none⟩ = some (.slice none 0 0) := (bc BK479 0); have hcz10_1 : w9.cell? ⟨gb479, 1, none⟩ = some (.int .i64 0) := (bc BK479 1); have hcz10_2 : w9.cell? ⟨gb479, 2, none⟩ = some (.int .i64 0) := (bc BK479 2); have hcz10_3 : w9.cell? ⟨gb479, 3, none⟩ = some (.slice none 0 0) := (bc BK479 3); have hcz10_4 : w9.cell? ⟨gb479, 4, none⟩ = some (.slice none 0 0) := (bc BK479 4); have hfz10_0 := blk_frozen BK479.out 0; have hfz10_1 := blk_frozen BK479.out 1; have hfz10_2 := blk_frozen BK479.out 2; have hfz10_3 := blk_frozen BK479.out 3; have hfz10_4 := blk_frozen BK479.out 4) | ((with_reducible refine gate_callee (f := 5) rfl ?_); refine goesL_ (some 38) rfl rfl Try.func5 (by kernel_rfl) rfl #[.agg #[.slice A478_0 ((rd_T26 l0 x3_1).f0).length c478_0, .int .i64 ((rd_T26 l0 x3_1).f1), .int .i64 ((rd_T26 l0 x3_1).f2), .slice A478_3 ((rd_T26 l0 x3_1).f3).length c478_3, .slice A478_4 ((rd_T26 l0 x3_1).f4).length c478_4]] rfl aa_1 ?_; (with_reducible refine (gangwaylaw19_heavy.calls kj1 _ _ ((rd_T26 l0 x3_1).f0) ((rd_T26 l0 x3_1).f1) ((rd_T26 l0 x3_1).f2) _ _ ((rd_T26 l0 x3_1).f3) _ _ ((rd_T26 l0 x3_1).f4) true _ ?side1 ?side2 ?side3 ?side4 ?side5 ?side6 A7.out).mono ?_); (case side1 => exact Kd.C_below HR478_0.out aa_0); (case side2 => exact HC478_0.out); (case side3 => exact Kd.C_below HR478_3.out aa_0); (case side4 => exact HC478_3.out); (case side5 => exact Kd.C_below HR478_4.out aa_0); (case side6 => exact HC478_4.out); rintro e w11 ⟨rfl, hb⟩; refine ⟨_, rfl, ?_⟩; have n0_ := am_ (blk_below (g := gb479) (o := .cells #[.slice A478_0 ((rd_T26 l0 x3_1).f0).length c478_0, .int .i64 ((rd_T26 l0 x3_1).f1), .int .i64 ((rd_T26 l0 x3_1).f2), .slice A478_3 ((rd_T26 l0 x3_1).f3).length c478_3, .slice A478_4 ((rd_T26 l0 x3_1).f4).length c478_4] 26 (0, 0)) (by (with_reducible repeat (first | refine blk_drewN ?_ _ | refine blk_drew ?_ | refine blk_alloc ?_ _)); refine puts (cs := #[.slice none 0 0, .int .i64 0, .int .i64 0, .slice none 0 0, .slice none 0 0]) [_, _, _, _, _] ?_ rfl; (with_reducible repeat (first | refine blk_drewN ?_ _ | refine blk_drew ?_ | refine blk_alloc ?_ _)); exact BK479.out) hb); have n1_ := am_ (below_step aa_0 hb); clear BK479; clear HB; have BK479 := n0_; have HB := n1_; clear n0_ n1_; (try clear hb); (try clear hb2); (try clear hk); (try clear hi)))
  go_ret
  exact ⟨by first | rfl | (simp [errW_none, errW_some] <;> rfl) | (simp [*, errW_none, errW_some] <;> rfl), by repeat (first | (with_reducible first | exact HB.out | apply below_alloc | apply pw_below_drewN | apply below_drew1 | refine below_set ?_ GE479.out) | exact HB.out)⟩
 as_aux_lemma =>
 replace c8 := Bool.eq_false_iff.mpr c8
 subst c8
 have H1 : ((gangwaylaw19_Both.f kj1 ((rd_T26 l0 x3_1).f0)).bind fun bt481 => (if bt481.1 = true then (if bt481.2.2.2.1 = true then (gangwaylaw19_IovBack.l1 kj1 l0 x3_1 ([] : List (S50)) 100 0 0 ((rd_T26 l0 x3_1).f0) ((rd_T26 l0 x3_1).f1) ((rd_T26 l0 x3_1).f2) ((rd_T26 l0 x3_1).f3) ((rd_T26 l0 x3_1).f4) bt481.2.1 bt481.2.2.1 bt481.2.2.2.2.1 bt481.2.2.2.2.2) else (none)) else (none))) = some r := by rw [if_neg (show ¬ (false = true) by decide)] at H; exact H
 clear H
 have H := H1
 clear H1
 replace H := bm_ H
 obtain ⟨⟨t481, t482, t485, t487, t488, t491⟩, A120, H⟩ := H
 replace H : (if t481 = true then (if t487 = true then (gangwaylaw19_IovBack.l1 kj1 l0 x3_1 ([] : List (S50)) 100 0 0 ((rd_T26 l0 x3_1).f0) ((rd_T26 l0 x3_1).f1) ((rd_T26 l0 x3_1).f2) ((rd_T26 l0 x3_1).f3) ((rd_T26 l0 x3_1).f4) t482 t485 t488 t491) else (none)) else (none)) = some r := H
 have A12 := am_ A120
 clear A120
 by_cases c13 : t481 = true
 rotate_left
 ·replace c13 := Bool.eq_false_iff.mpr c13
  subst c13
  have H1 : (none) = some r := by rw [if_neg (show ¬ (false = true) by decide)] at H; exact H
  clear H
  have H := H1
  clear H1
  exact absurd H (by simp)
 as_aux_lemma =>
 subst c13
 have H1 : (if t487 = true then (gangwaylaw19_IovBack.l1 kj1 l0 x3_1 ([] : List (S50)) 100 0 0 ((rd_T26 l0 x3_1).f0) ((rd_T26 l0 x3_1).f1) ((rd_T26 l0 x3_1).f2) ((rd_T26 l0 x3_1).f3) ((rd_T26 l0 x3_1).f4) t482 t485 t488 t491) else (none)) = some r := by rw [if_pos rfl] at H; exact H
 clear H
 have H := H1
 clear H1
 by_cases c14 : t487 = true
 rotate_left
 ·replace c14 := Bool.eq_false_iff.mpr c14
  subst c14
  have H1 : (none) = some r := by rw [if_neg (show ¬ (false = true) by decide)] at H; exact H
  clear H
  have H := H1
  clear H1
  exact absurd H (by simp)
 as_aux_lemma =>
 subst c14
 have H1 : (gangwaylaw19_IovBack.l1 kj1 l0 x3_1 ([] : List (S50)) 100 0 0 ((rd_T26 l0 x3_1).f0) ((rd_T26 l0 x3_1).f1) ((rd_T26 l0 x3_1).f2) ((rd_T26 l0 x3_1).f3) ((rd_T26 l0 x3_1).f4) t482 t485 t488 t491) = some r := by rw [if_pos rfl] at H; exact H
 clear H
 have H := H1
 clear H1
 have HC15 := am_ H
 clear H
 have p478 : 0 ≤ (x3_1 : Int) := of_decide_eq_true aa_3
 have q478 : x3_1 < (l0.length : Int) := of_decide_eq_true aa_3
 obtain ⟨ad478, A478_0, c478_0, A478_3, c478_3, A478_4, c478_4, e478, hx478_0, hx478_1, hx478_2, hx478_3, hx478_4, hl478_0, hi478_0, hl478_3, hi478_3, hl478_4, hi478_4⟩ := at_T26 HR0.out x3_1 p478 q478
 cases e478
 replace hx478_0 := up HB hx478_0
 replace hx478_1 := up HB hx478_1
 replace hx478_2 := up HB hx478_2
 replace hx478_3 := up HB hx478_3
 replace hx478_4 := up HB hx478_4
 have HR478_0 := am_ hi478_0
 have HC478_0 := am_ hl478_0
 clear hi478_0 hl478_0
 have HR478_3 := am_ hi478_3
 have HC478_3 := am_ hl478_3
 clear hi478_3 hl478_3
 have HR478_4 := am_ hi478_4
 have HC478_4 := am_ hl478_4
 clear hi478_4 hl478_4
 replace p478 := eq_true p478
 replace q478 := eq_true q478
 go_upto_block 2 with (first | ((with_reducible refine gate_dst (N := 4) rfl ?_); (try (refine gate_guard (by rfl) ?_; dsimp only)); refine box_event ?hg (N := 4) ?hd (cs := #[.slice none 0 0, .int .i64 0, .int .i64 0, .slice none 0 0, .slice none 0 0]) (t := 26) ?hr ?_; (case hd => rfl); (case hg => rfl); (case hr => first | (go_simp; done) | (go_simp; rfl)); intro gb479 hg w16 hbox hb; have n0_ := am_ (below_step aa_7 hb); have n1_ := am_ (hbox); have n2_ := am_ ((by rw [hg]; exact (below_size aa_7) : w.heap.size ≤ gb479)); have n3_ := am_ ((by rw [hg]; exact (below_size aa_7) : w.heap.size ≤ gb479)); clear HB; have HB := n0_; have BK479 := n1_; have GW479 := n2_; have GE479 := n3_; clear n0_ n1_ n2_ n3_; clear hb hbox hg; have hcz17_0 : w16.cell? ⟨gb479, 0, none⟩ = some (.slice none 0 0) := (bc BK479 0); have hcz17_1 : w16.cell? ⟨gb479, 1, none⟩ = some (.int .i64 0) := (bc BK479 1); have hcz17_2 : w16.cell? ⟨gb479, 2, none⟩ = some (.int .i64 0) := (bc BK479 2); have hcz17_3 : w16.cell? ⟨gb479, 3, none⟩ = some (.slice none 0 0) := (bc BK479 3); have hcz17_4 : w16.cell? ⟨gb479, 4, none⟩ = some (.slice none 0 0) := (bc BK479 4); have hfz17_0 := blk_frozen BK479.out 0; have hfz17_1 := blk_frozen BK479.out 1; have hfz17_2 := blk_frozen BK479.out 2; have hfz17_3 := blk_frozen BK479.out 3; have hfz17_4 := blk_frozen BK479.out 4) | ((with_reducible refine gate_callee (f := 5) rfl ?_); refine goesL_ (some 38) rfl rfl Try.func5 (by kernel_rfl) rfl #[.agg #[.slice A478_0 ((rd_T26 l0 x3_1).f0).length c478_0, .int .i64 ((rd_T26 l0 x3_1).f1), .int .i64 ((rd_T26 l0 x3_1).f2), .slice A478_3 ((rd_T26 l0 x3_1).f3).length c478_3, .slice A478_4 ((rd_T26 l0 x3_1).f4).length c478_4]] rfl aa_1 ?_; (with_reducible refine (gangwaylaw19_heavy.calls kj1 _ _ ((rd_T26 l0 x3_1).f0) ((rd_T26 l0 x3_1).f1) ((rd_T26 l0 x3_1).f2) _ _ ((rd_T26 l0 x3_1).f3) _ _ ((rd_T26 l0 x3_1).f4) false _ ?side1 ?side2 ?side3 ?side4 ?side5 ?side6 A7.out).mono ?_); (case side1 => exact Kd.C_below HR478_0.out aa_0); (case side2 => exact HC478_0.out); (case side3 => exact Kd.C_below HR478_3.out aa_0); (case side4 => exact HC478_3.out); (case side5 => exact Kd.C_below HR478_4.out aa_0); (case side6 => exact HC478_4.out); rintro e w18 ⟨rfl, hb⟩; refine ⟨_, rfl, ?_⟩; have n0_ := am_ (blk_below (g := gb479) (o := .cells #[.slice A478_0 ((rd_T26 l0 x3_1).f0).length c478_0, .int .i64 ((rd_T26 l0 x3_1).f1), .int .i64 ((rd_T26 l0 x3_1).f2), .slice A478_3 ((rd_T26 l0 x3_1).f3).length c478_3, .slice A478_4 ((rd_T26 l0 x3_1).f4).length c478_4] 26 (0, 0)) (by (with_reducible repeat (first | refine blk_drewN ?_ _ | refine blk_drew ?_ | refine blk_alloc ?_ _)); refine puts (cs := #[.slice none 0 0, .int .i64 0, .int .i64 0, .slice none 0 0, .slice none 0 0]) [_, _, _, _, _] ?_ rfl; (with_reducible repeat (first | refine blk_drewN ?_ _ | refine blk_drew ?_ | refine blk_alloc ?_ _)); exact BK479.out) hb); have n1_ := am_ (below_step aa_0 hb); clear BK479; clear HB; have BK479 := n0_; have HB := n1_; clear n0_ n1_; (try clear hb); (try clear hb2); (try clear hk); (try clear hi); have hcz19_0 : w18.cell? ⟨gb479, 0, none⟩ = some (.slice A478_0 ((rd_T26 l0 x3_1).f0).length c478_0) := (bc BK479 0); have hcz19_1 : w18.cell? ⟨gb479, 1, none⟩ = some (.int .i64 ((rd_T26 l0 x3_1).f1)) := (bc BK479 1); have hcz19_2 : w18.cell? ⟨gb479, 2, none⟩ = some (.int .i64 ((rd_T26 l0 x3_1).f2)) := (bc BK479 2); have hcz19_3 : w18.cell? ⟨gb479, 3, none⟩ = some (.slice A478_3 ((rd_T26 l0 x3_1).f3).length c478_3) := (bc BK479 3); have hcz19_4 : w18.cell? ⟨gb479, 4, none⟩ = some (.slice A478_4 ((rd_T26 l0 x3_1).f4).length c478_4) := (bc BK479 4); have hfz19_0 := blk_frozen BK479.out 0; have hfz19_1 := blk_frozen BK479.out 1; have hfz19_2 := blk_frozen BK479.out 2; have hfz19_3 := blk_frozen BK479.out 3; have hfz19_4 := blk_frozen BK479.out 4) | ((with_reducible refine gate_callee (f := 6) rfl ?_); refine goesL_ (some 42) rfl rfl Try.func6 (by kernel_rfl) rfl #[.slice A478_0 ((rd_T26 l0 x3_1).f0).length c478_0] rfl aa_1 ?_; (with_reducible refine (gangwaylaw19_Both.calls kj1 _ _ ((rd_T26 l0 x3_1).f0) true t482 t485 true t488 t491 _ ?side1 ?side2 A12.out).mono ?_); (case side1 => repeat (first | exact (Kd.C_below HR478_0.out HB.out) | (with_reducible refine Kd.C_alloc ?_ _) | (with_reducible refine Kd.C_drewN ?_ _) | (with_reducible refine Kd.C_drew ?_))); (case side2 => exact HC478_0.out); rintro e w20 ⟨v483, v489, pz486, pz492, rfl, ho0, ho1, hz486, hz492, hb⟩; refine ⟨_, rfl, ?_⟩; have n0_ := am_ (Kd.R_lower ho0 (below_size aa_0)); have n1_ := am_ (Kd.R_lower ho1 (below_size aa_0)); have n2_ := am_ (bbelow BK479 aa_6 hb); have n3_ := am_ ((show (true = true → ∃ g_ : Nat, pz486 = .pointer (some ⟨g_, 0, none⟩) ∧ IsS72 w w20 g_ v483 t485 ∧ gb479 ≠ g_) ∧ (true = false → pz486 = .pointer none) from ⟨fun h_ => (hz486.1 h_).elim fun g_ hg_ => ⟨g_, hg_.1, hg_.2.lower ((below_size aa_0)), Nat.ne_of_lt (Nat.lt_of_lt_of_le (blk_lt (g := gb479) (o := .cells #[.slice A478_0 ((rd_T26 l0 x3_1).f0).length c478_0, .int .i64 ((rd_T26 l0 x3_1).f1), .int .i64 ((rd_T26 l0 x3_1).f2), .slice A478_3 ((rd_T26 l0 x3_1).f3).length c478_3, .slice A478_4 ((rd_T26 l0 x3_1).f4).length c478_4] 26 (0, 0)) aa_6) hg_.2.ge)⟩, hz486.2⟩)); have n4_ := am_ ((show (true = true → ∃ g_ : Nat, pz492 = .pointer (some ⟨g_, 0, none⟩) ∧ IsS57 w w20 g_ v489 t491 ∧ gb479 ≠ g_) ∧ (true = false → pz492 = .pointer none) from ⟨fun h_ => (hz492.1 h_).elim fun g_ hg_ => ⟨g_, hg_.1, hg_.2.lower ((below_size aa_0)), Nat.ne_of_lt (Nat.lt_of_lt_of_le (blk_lt (g := gb479) (o := .cells #[.slice A478_0 ((rd_T26 l0 x3_1).f0).length c478_0, .int .i64 ((rd_T26 l0 x3_1).f1), .int .i64 ((rd_T26 l0 x3_1).f2), .slice A478_3 ((rd_T26 l0 x3_1).f3).length c478_3, .slice A478_4 ((rd_T26 l0 x3_1).f4).length c478_4] 26 (0, 0)) aa_6) hg_.2.ge)⟩, hz492.2⟩)); have n5_ := am_ (below_step aa_0 hb); clear BK479; clear HB; have HO484 := n0_; have HO490 := n1_; have BK479 := n2_; have HZ486 := n3_; have HZ492 := n4_; have HB := n5_; clear n0_ n1_ n2_ n3_ n4_ n5_; (try clear hb); (try clear hb2); (try clear hk); (try clear hi); (try clear ho0); (try clear ho1); obtain ⟨g486, e_, hi_, hn0_⟩ := HZ486.out.1 rfl; subst e_; have HI486 := am_ hi_; clear hi_ HZ486; have NB479_486 := am_ hn0_; have NB486_479 := am_ (Ne.symm hn0_); clear hn0_; obtain ⟨g492, e_, hi_, hn0_⟩ := HZ492.out.1 rfl; subst e_; have HI492 := am_ hi_; clear hi_ HZ492; have NB479_492 := am_ hn0_; have NB492_479 := am_ (Ne.symm hn0_); clear hn0_; have NB486_492 := am_ (IsS72.ne_blk HI486.out HI492.out.1 (by decide)); have NB492_486 := am_ (Ne.symm NB486_492.out)))
 (try simp only [Act.put, e1, e2, e3])
 go_cut [7, 9] (fun v7 v9 wc => ∃ (kq : Nat) (x7_14 : List (S50)) (x9_14 : Int), v9 = .int .i64 x9_14 ∧ Aside0 (j3 kq l0 x3_1 x7_14 x9_14 ((rd_T26 l0 x3_1).f0) ((rd_T26 l0 x3_1).f1) ((rd_T26 l0 x3_1).f2) ((rd_T26 l0 x3_1).f3) ((rd_T26 l0 x3_1).f4) t482 t485 t488 t491 = some r) ∧ Aside0 (kq ≤ kj1) ∧ Aside0 (Kd.R k50 50 wc w.heap.size (fun _ => True) v7 x7_14) ∧ Aside0 (Kd.R (Kd.int .u8) 5 wc w.heap.size (fun k_ => some k_ ≠ (v489 : Value).ownBlock) v483 t482) ∧ Aside0 (Kd.R (Kd.int .u8) 5 wc w.heap.size (fun k_ => some k_ ≠ (v483 : Value).ownBlock) v489 t488) ∧ Aside0 (wc.heap[gb479]? = some (.cells #[(.slice A478_0 ((rd_T26 l0 x3_1).f0).length c478_0), .int .i64 ((rd_T26 l0 x3_1).f1), .int .i64 ((rd_T26 l0 x3_1).f2), (.slice A478_3 ((rd_T26 l0 x3_1).f3).length c478_3), (.slice A478_4 ((rd_T26 l0 x3_1).f4).length c478_4)] 26 (0, 0))) ∧ Aside0 (IsS72 w wc g486 v483 t485) ∧ Aside0 (IsS57 w wc g492 v489 t491) ∧ Aside0 (Below w.heap.size w wc))
 case first =>
  as_aux_lemma =>
  have H := HC15.out
  clear HC15
  have H' := am_ H
  clear H
  go_wp2
  go_loopg [7, 8, 9, 10] kj1 (fun kq v7 v8 v9 v10 w' => ∃ (x7_3 : List (S50)) (x8_3 : Int) (x9_3 : Int) (x10_3 : Int), v8 = .int .i64 x8_3 ∧ v9 = .int .i64 x9_3 ∧ v10 = .int .i64 x10_3 ∧ Aside0 (gangwaylaw19_IovBack.l1 kq l0 x3_1 x7_3 x8_3 x9_3 x10_3 ((rd_T26 l0 x3_1).f0) ((rd_T26 l0 x3_1).f1) ((rd_T26 l0 x3_1).f2) ((rd_T26 l0 x3_1).f3) ((rd_T26 l0 x3_1).f4) t482 t485 t488 t491 = some r) ∧ Aside0 (kq ≤ kj1) ∧ Aside0 (Kd.R k50 50 w' w.heap.size (fun _ => True) v7 x7_3) ∧ Aside0 (Kd.R (Kd.int .u8) 5 w' w.heap.size (fun k_ => some k_ ≠ (v489 : Value).ownBlock) v483 t482) ∧ Aside0 (Kd.R (Kd.int .u8) 5 w' w.heap.size (fun k_ => some k_ ≠ (v483 : Value).ownBlock) v489 t488) ∧ Aside0 (w'.heap[gb479]? = some (.cells #[(.slice A478_0 ((rd_T26 l0 x3_1).f0).length c478_0), .int .i64 ((rd_T26 l0 x3_1).f1), .int .i64 ((rd_T26 l0 x3_1).f2), (.slice A478_3 ((rd_T26 l0 x3_1).f3).length c478_3), (.slice A478_4 ((rd_T26 l0 x3_1).f4).length c478_4)] 26 (0, 0))) ∧ Aside0 (IsS72 w w' g486 v483 t485) ∧ Aside0 (IsS57 w w' g492 v489 t491) ∧ Aside0 (Below w.heap.size w w'))
  case atStart => exact ⟨(([] : List (S50))), (100), (0), (0), aa_2, aa_2, aa_2, H', ⟨Nat.le_refl _⟩, ⟨by first | exact Kd.R_nil _ _ _ _ _ | exact Kd.N_nil _ _ _ _ _ | exact Kd.V_nil _ _ _ _ _ | exact Kd.Q_nil _ _ _ _ _ | exact Kd.S_nil _ _ _ _ _⟩, ⟨by (with_reducible repeat (first | apply Kd.R_alloc | apply Kd.R_drewN | apply Kd.R_drew)); exact HO484.out⟩, ⟨by (with_reducible repeat (first | apply Kd.R_alloc | apply Kd.R_drewN | apply Kd.R_drew)); exact HO490.out⟩, ⟨aa_6⟩, ⟨aa_9⟩, ⟨aa_5⟩, ⟨aa_4⟩⟩
  case round =>
  as_aux_lemma =>
  clear H'
  try clear c1
  try clear p2
  try clear c3
  try clear c3b0
  try clear c4
  try clear p4
  try clear q4
  try clear hx4
  try clear c5
  try clear c5b0
  try clear c6
  try clear c6b0
  try clear c8
  try clear c13
  try clear c14
  try clear hcz10_0
  try clear hcz10_1
  try clear hcz10_2
  try clear hcz10_3
  try clear hcz10_4
  try clear hcz17_0
  try clear hcz17_1
  try clear hcz17_2
  try clear hcz17_3
  try clear hcz17_4
  try clear hcz19_0
  try clear hcz19_1
  try clear hcz19_2
  try clear hcz19_3
  try clear hcz19_4
  try clear hfz10_0
  try clear hfz10_1
  try clear hfz10_2
  try clear hfz10_3
  try clear hfz10_4
  try clear hfz17_0
  try clear hfz17_1
  try clear hfz17_2
  try clear hfz17_3
  try clear hfz17_4
  try clear hfz19_0
  try clear hfz19_1
  try clear hfz19_2
  try clear hfz19_3
  try clear hfz19_4
  try clear hx478_0
  try clear hx478_1
  try clear hx478_2
  try clear hx478_3
  try clear hx478_4
  try clear p2
  try clear p478
  try clear q478
  obtain ⟨x7_3, x8_3, x9_3, x10_3, rfl, rfl, rfl, HA, HK3, HO_7, HO_5z, HO_7z, BK479, HI486, HI492, HB⟩ := hrel
  cases gk with
  | zero => exact absurd HA.out (by simp [gangwaylaw19_IovBack.l1])
  | succ k3 =>
  have H := HA.out
  clear HA
  simp only [gangwaylaw19_IovBack.l1] at H
  by_cases c21 : x10_3 < (((rd_T26 l0 x3_1).f3).length : Int)
  rotate_left
  ·rw [if_neg c21] at H
   have c21b0 : decide (x10_3 < (((rd_T26 l0 x3_1).f3).length : Int)) = false := decide_eq_false c21
   clear c21
   (first | rw [c21b0] | (simp only [i64_w, i32_w]; rw [c21b0]) | skip)
   have H' := am_ H
   clear H
   have hnb32 := NB479_486.out
   have hnc32 := NB486_479.out
   have hnb33 := NB479_492.out
   have hnc33 := NB492_479.out
   have hcz34_0 : wr.cell? ⟨gb479, 0, none⟩ = some (.slice A478_0 ((rd_T26 l0 x3_1).f0).length c478_0) := bc BK479 0
   have hcz34_1 : wr.cell? ⟨gb479, 1, none⟩ = some (.int .i64 ((rd_T26 l0 x3_1).f1)) := bc BK479 1
   have hcz34_2 : wr.cell? ⟨gb479, 2, none⟩ = some (.int .i64 ((rd_T26 l0 x3_1).f2)) := bc BK479 2
   have hcz34_3 : wr.cell? ⟨gb479, 3, none⟩ = some (.slice A478_3 ((rd_T26 l0 x3_1).f3).length c478_3) := bc BK479 3
   have hcz34_4 : wr.cell? ⟨gb479, 4, none⟩ = some (.slice A478_4 ((rd_T26 l0 x3_1).f4).length c478_4) := bc BK479 4
   have hfz34_0 := blk_frozen BK479.out 0
   have hfz34_1 := blk_frozen BK479.out 1
   have hfz34_2 := blk_frozen BK479.out 2
   have hfz34_3 := blk_frozen BK479.out 3
   have hfz34_4 := blk_frozen BK479.out 4
   go_wp2
   go_meet
   case rel => exact ⟨_, (x7_3), (x9_3), aa_2, H', ⟨by have := HK1.out; have := HJ1.out; have := HK3.out; first | omega | exact Nat.le_refl _⟩, ⟨aa_11⟩, ⟨aa_10⟩, ⟨aa_8⟩, ⟨aa_6⟩, ⟨aa_9⟩, ⟨aa_5⟩, ⟨aa_4⟩⟩
  as_aux_lemma =>
  rw [if_pos c21] at H
  have c21b0 : decide (x10_3 < (((rd_T26 l0 x3_1).f3).length : Int)) = true := decide_eq_true c21
  clear c21
  (first | rw [c21b0] | (simp only [i64_w, i32_w]; rw [c21b0]) | skip)
  by_cases c22 : x10_3 < 10
  rotate_left
  ·rw [if_neg c22] at H
   have c22b0 : decide (x10_3 < 10) = false := decide_eq_false c22
   clear c22
   have H' := am_ H
   clear H
   have hnb29 := NB479_486.out
   have hnc29 := NB486_479.out
   have hnb30 := NB479_492.out
   have hnc30 := NB492_479.out
   have hcz31_0 : wr.cell? ⟨gb479, 0, none⟩ = some (.slice A478_0 ((rd_T26 l0 x3_1).f0).length c478_0) := bc BK479 0
   have hcz31_1 : wr.cell? ⟨gb479, 1, none⟩ = some (.int .i64 ((rd_T26 l0 x3_1).f1)) := bc BK479 1
   have hcz31_2 : wr.cell? ⟨gb479, 2, none⟩ = some (.int .i64 ((rd_T26 l0 x3_1).f2)) := bc BK479 2
   have hcz31_3 : wr.cell? ⟨gb479, 3, none⟩ = some (.slice A478_3 ((rd_T26 l0 x3_1).f3).length c478_3) := bc BK479 3
   have hcz31_4 : wr.cell? ⟨gb479, 4, none⟩ = some (.slice A478_4 ((rd_T26 l0 x3_1).f4).length c478_4) := bc BK479 4
   have hfz31_0 := blk_frozen BK479.out 0
   have hfz31_1 := blk_frozen BK479.out 1
   have hfz31_2 := blk_frozen BK479.out 2
   have hfz31_3 := blk_frozen BK479.out 3
   have hfz31_4 := blk_frozen BK479.out 4
   go_wp2
   go_meet
   case rel => exact ⟨_, (x7_3), (x9_3), aa_2, H', ⟨by have := HK1.out; have := HJ1.out; have := HK3.out; first | omega | exact Nat.le_refl _⟩, ⟨aa_11⟩, ⟨aa_10⟩, ⟨aa_8⟩, ⟨aa_6⟩, ⟨aa_9⟩, ⟨aa_5⟩, ⟨aa_4⟩⟩
  as_aux_lemma =>
  rw [if_pos c22] at H
  have c22b0 : decide (x10_3 < 10) = true := decide_eq_true c22
  clear c22
  by_cases c23 : 0 ≤ x10_3
  rotate_left
  ·rw [if_neg c23] at H
   exact absurd H (by simp)
  as_aux_lemma =>
  rw [if_pos c23] at H
  have c23b0 : decide (0 ≤ x10_3) = true := decide_eq_true c23
  clear c23
  by_cases c24 : x7_3.length < 8796093022208
  rotate_left
  ·rw [if_neg c24] at H
   exact absurd H (by simp)
  rw [if_pos c24] at H
  have LMc24 := am_ c24
  clear c24
  obtain ⟨y494, hy494⟩ : ∃ y_ : List (S50), y_ = (x7_3 ++ [(⟨x8_3, wrap64 (Int.tmod (IntKind.u64.wrap ((rd_T50 ((rd_T26 l0 x3_1).f3) x10_3).f1)) 20)⟩ : S50)]) := ⟨_, rfl⟩
  replace H : (gangwaylaw19_IovBack.l1 k3 l0 x3_1 y494 (wrap64 ((wrap64 (x8_3 + (wrap64 (Int.tmod (IntKind.u64.wrap ((rd_T50 ((rd_T26 l0 x3_1).f3) x10_3).f1)) 20)))) + x10_3)) (wrap64 (x9_3 + (wrap64 (Int.tmod (IntKind.u64.wrap ((rd_T50 ((rd_T26 l0 x3_1).f3) x10_3).f1)) 20)))) (wrap64 (x10_3 + 1)) ((rd_T26 l0 x3_1).f0) ((rd_T26 l0 x3_1).f1) ((rd_T26 l0 x3_1).f2) ((rd_T26 l0 x3_1).f3) ((rd_T26 l0 x3_1).f4) t482 t485 t488 t491) = some r := by first | (rw [hy494]; with_reducible exact H) | (have H2_ := (Option.bind_some _ _).symm.trans H; rw [hy494]; with_reducible exact H2_) | (have H2_ := (Option.bind_some _ _).symm.trans H; with_reducible exact H2_) | with_reducible exact H | (rw [hy494]; exact H) | exact H
  have Ny494 := am_ hy494
  clear hy494
  have H' := am_ H
  clear H
  have hnb25 := NB479_486.out
  have hnc25 := NB486_479.out
  have hnb26 := NB479_492.out
  have hnc26 := NB492_479.out
  have hcz27_0 : wr.cell? ⟨gb479, 0, none⟩ = some (.slice A478_0 ((rd_T26 l0 x3_1).f0).length c478_0) := bc BK479 0
  have hcz27_1 : wr.cell? ⟨gb479, 1, none⟩ = some (.int .i64 ((rd_T26 l0 x3_1).f1)) := bc BK479 1
  have hcz27_2 : wr.cell? ⟨gb479, 2, none⟩ = some (.int .i64 ((rd_T26 l0 x3_1).f2)) := bc BK479 2
  have hcz27_3 : wr.cell? ⟨gb479, 3, none⟩ = some (.slice A478_3 ((rd_T26 l0 x3_1).f3).length c478_3) := bc BK479 3
  have hcz27_4 : wr.cell? ⟨gb479, 4, none⟩ = some (.slice A478_4 ((rd_T26 l0 x3_1).f4).length c478_4) := bc BK479 4
  have hfz27_0 := blk_frozen BK479.out 0
  have hfz27_1 := blk_frozen BK479.out 1
  have hfz27_2 := blk_frozen BK479.out 2
  have hfz27_3 := blk_frozen BK479.out 3
  have hfz27_4 := blk_frozen BK479.out 4
  have p493 : 0 ≤ (x10_3 : Int) := of_decide_eq_true aa_3
  have q493 : x10_3 < (((rd_T26 l0 x3_1).f3).length : Int) := of_decide_eq_true aa_3
  obtain ⟨ad493, e493, hx493_0, hx493_1⟩ := at_T50 HR478_3.out x10_3 p493 q493
  cases e493
  replace hx493_0 := up HB hx493_0
  replace hx493_1 := up HB hx493_1
  replace p493 := eq_true p493
  replace q493 := eq_true q493
  go_wp2_with (first | ((with_reducible refine gate_builtin (b := .append) (xs := #[.tmp 67, .tmp 71]) rfl ?_); (try (refine gate_guard (by rfl) ?_; dsimp only)); at_builtin; refine Kd.R_append k50 (w0 := w) w.heap.size rfl (.tmp 67) (.tmp 71) 24 50 (.agg #[(.int .i64 0), (.int .i64 0)]) 16 rfl Try.underlying24 info50 rfl (by decide) (by omega) u7 x7_3 (⟨x8_3, wrap64 (Int.tmod (IntKind.u64.wrap ((rd_T50 ((rd_T26 l0 x3_1).f3) x10_3).f1)) 20)⟩ : S50) [.int .i64 x8_3, .int .i64 (wrap64 (Int.tmod (IntKind.u64.wrap ((rd_T50 ((rd_T26 l0 x3_1).f3) x10_3).f1)) 20))] (fun _ => True) (fun _ => False) rfl rfl ?aP (fun _ hk => hk.elim) ?aF ?aO ?aB ?aS ?aL ?_; (case aP => exact k50_mkM _ _ _ (⟨x8_3, wrap64 (Int.tmod (IntKind.u64.wrap ((rd_T50 ((rd_T26 l0 x3_1).f3) x10_3).f1)) 20)⟩ : S50)); (case aB => exact aa_4); (case aF => exact (fun _ _ => trivial)); (case aO => exact (by (with_reducible repeat (first | apply Kd.R_alloc | apply Kd.R_drewN | apply Kd.R_drew)); exact HO_7.out)); (case aS => exact (below_size aa_4)); (case aL => have := LMc24.out; omega); intro v495 w28 ho hb hg hat; rw [← Ny494.out] at ho; have n0_ := am_ (Kd.R_over' (by (with_reducible repeat (first | apply Kd.R_alloc | apply Kd.R_drewN | apply Kd.R_drew)); exact HO_5z.out) (Kd.R_typed (by (with_reducible repeat (first | apply Kd.R_alloc | apply Kd.R_drewN | apply Kd.R_drew)); exact HO_7.out)) (by decide) hg); have n1_ := am_ (Kd.R_over' aa_8 (Kd.R_typed (by (with_reducible repeat (first | apply Kd.R_alloc | apply Kd.R_drewN | apply Kd.R_drew)); exact HO_7.out)) (by decide) hg); have n2_ := am_ (blk_grown (g := gb479) (o := .cells #[.slice A478_0 ((rd_T26 l0 x3_1).f0).length c478_0, .int .i64 ((rd_T26 l0 x3_1).f1), .int .i64 ((rd_T26 l0 x3_1).f2), .slice (some ad493) ((rd_T26 l0 x3_1).f3).length c478_3, .slice A478_4 ((rd_T26 l0 x3_1).f4).length c478_4] 26 (0, 0)) aa_6 hg (Kd.R_ne HO_7.out BK479.out (by decide))); have n3_ := am_ (IsS72.grown (by repeat (first | (with_reducible first | exact HI486.out | apply IsS72.alloc | apply IsS72.drewN | apply IsS72.drew | apply IsS72.set_0 | apply IsS72.set_1 | refine IsS72.far ?_ NB486_479.out _) | exact HI486.out)) hg (IsS72.own_ne HI486.out HO_7.out (by decide))); have n4_ := am_ (IsS57.grown aa_5 hg (IsS57.own_ne HI492.out HO_7.out (by decide))); have n5_ := am_ (hb); have n6_ := am_ (ho); clear HO_5z; clear HO_7z; clear BK479; clear HI486; clear HI492; clear HB; clear HO_7; have HO_5z := n0_; have HO_7z := n1_; have BK479 := n2_; have HI486 := n3_; have HI492 := n4_; have HB := n5_; have HO496 := n6_; clear n0_ n1_ n2_ n3_ n4_ n5_ n6_; clear ho hb hg hat))
  go_roundg k3
  case measure => have := HK1.out; have := HJ1.out; have := HK3.out; omega
  case rel => exact ⟨(y494), (wrap64 ((wrap64 (x8_3 + (wrap64 (Int.tmod (IntKind.u64.wrap ((rd_T50 ((rd_T26 l0 x3_1).f3) x10_3).f1)) 20)))) + x10_3)), (wrap64 (x9_3 + (wrap64 (Int.tmod (IntKind.u64.wrap ((rd_T50 ((rd_T26 l0 x3_1).f3) x10_3).f1)) 20)))), (wrap64 (x10_3 + 1)), aa_2, aa_2, aa_2, H', ⟨by have := HK1.out; have := HJ1.out; have := HK3.out; omega⟩, ⟨by (with_reducible repeat (first | apply Kd.R_alloc | apply Kd.R_drewN | apply Kd.R_drew)); exact HO496.out⟩, ⟨aa_10⟩, ⟨aa_8⟩, ⟨aa_6⟩, ⟨aa_9⟩, ⟨aa_5⟩, ⟨aa_4⟩⟩
 case rest =>
 as_aux_lemma =>
 clear HC15
 try clear c1
 try clear c2
 try clear p2
 try clear c3
 try clear c3b0
 try clear c4
 try clear p4
 try clear q4
 try clear hx4
 try clear c5
 try clear c5b0
 try clear c6
 try clear c6b0
 try clear p6
 try clear c8
 try clear c13
 try clear c14
 try clear c21
 try clear c21b0
 try clear c22
 try clear c22b0
 try clear c23
 try clear c23b0
 try clear c24
 try clear c25
 try clear c26
 try clear c29
 try clear c30
 try clear c32
 try clear c33
 try clear hcz10_0
 try clear hcz10_1
 try clear hcz10_2
 try clear hcz10_3
 try clear hcz10_4
 try clear hcz17_0
 try clear hcz17_1
 try clear hcz17_2
 try clear hcz17_3
 try clear hcz17_4
 try clear hcz19_0
 try clear hcz19_1
 try clear hcz19_2
 try clear hcz19_3
 try clear hcz19_4
 try clear hcz27_0
 try clear hcz27_1
 try clear hcz27_2
 try clear hcz27_3
 try clear hcz27_4
 try clear hcz31_0
 try clear hcz31_1
 try clear hcz31_2
 try clear hcz31_3
 try clear hcz31_4
 try clear hcz34_0
 try clear hcz34_1
 try clear hcz34_2
 try clear hcz34_3
 try clear hcz34_4
 try clear hfz10_0
 try clear hfz10_1
 try clear hfz10_2
 try clear hfz10_3
 try clear hfz10_4
 try clear hfz17_0
 try clear hfz17_1
 try clear hfz17_2
 try clear hfz17_3
 try clear hfz17_4
 try clear hfz19_0
 try clear hfz19_1
 try clear hfz19_2
 try clear hfz19_3
 try clear hfz19_4
 try clear hfz27_0
 try clear hfz27_1
 try clear hfz27_2
 try clear hfz27_3
 try clear hfz27_4
 try clear hfz31_0
 try clear hfz31_1
 try clear hfz31_2
 try clear hfz31_3
 try clear hfz31_4
 try clear hfz34_0
 try clear hfz34_1
 try clear hfz34_2
 try clear hfz34_3
 try clear hfz34_4
 try clear hx478_0
 try clear hx478_1
 try clear hx478_2
 try clear hx478_3
 try clear hx478_4
 try clear hx493_0
 try clear hx493_1
 try clear p2
 try clear p4
 try clear p478
 try clear p493
 try clear q4
 try clear q478
 try clear q493
 obtain ⟨kq, x7_14, x9_14, rfl, HA, HJ14, HO_7, HO_5z, HO_7z, BK479, HI486, HI492, HB⟩ := hcut
 cases kq with
 | zero => exact absurd HA.out (by simp [j3])
 | succ kj14 =>
 have H := HA.out
 clear HA
 simp only [j3] at H
 replace H := bm_ H
 obtain ⟨⟨t497, t498, t499, t502⟩, A350, H⟩ := H
 replace H : ((iov_Gather.f kj14 t499 t502 x7_14).bind fun bt503 => ((iov_Total.f kj14 x7_14).bind fun bt511 => ((gangwaylaw19_num.f t498).bind fun t513 => (if t513 = 0 then ((gangwaylaw19_num.f bt503.2.1).bind fun t514 => (if t514 = 0 then ((gangwaylaw19_num.f bt511.2).bind fun t515 => (if t515 = 0 then (if bt511.1 = x9_14 then (if (bt503.1.length : Int) = x9_14 then (if t497 = (mn x9_14 (((rd_T26 l0 x3_1).f4).length : Int)) then (if 0 ≤ t497 then (if t497 ≤ (bt503.1.length : Int) then (if t497 ≤ (((rd_T26 l0 x3_1).f4).length : Int) then ((gangwayref0_EqBytes.f kj14 (bt503.1.take (t497 : Int).toNat) (((rd_T26 l0 x3_1).f4).take (t497 : Int).toNat)).bind fun t521 => (if t521 = true then ((mem_Memory_Read.f bt503.2.2.1 bt503.2.2.2 0 (t488.length : Int)).bind fun bt541 => ((gangwaylaw19_num.f bt541.2.1).bind fun t549 => (if t549 = 0 then (if (bt541.1.length : Int) = (t488.length : Int) then (gangwaylaw19_IovBack.l2 kj14 l0 x3_1 x7_14 bt541.1 0 t488 t491) else (none)) else (none)))) else (none))) else (none)) else (none)) else (none)) else (none)) else (none)) else (none)) else (none))) else (none))) else (none))))) = some r := H
 have A35 := am_ A350
 clear A350
 replace H := bm_ H
 obtain ⟨⟨t503, t506, t507, t510⟩, A360, H⟩ := H
 replace H : ((iov_Total.f kj14 x7_14).bind fun bt511 => ((gangwaylaw19_num.f t498).bind fun t513 => (if t513 = 0 then ((gangwaylaw19_num.f t506).bind fun t514 => (if t514 = 0 then ((gangwaylaw19_num.f bt511.2).bind fun t515 => (if t515 = 0 then (if bt511.1 = x9_14 then (if (t503.length : Int) = x9_14 then (if t497 = (mn x9_14 (((rd_T26 l0 x3_1).f4).length : Int)) then (if 0 ≤ t497 then (if t497 ≤ (t503.length : Int) then (if t497 ≤ (((rd_T26 l0 x3_1).f4).length : Int) then ((gangwayref0_EqBytes.f kj14 (t503.take (t497 : Int).toNat) (((rd_T26 l0 x3_1).f4).take (t497 : Int).toNat)).bind fun t521 => (if t521 = true then ((mem_Memory_Read.f t507 t510 0 (t488.length : Int)).bind fun bt541 => ((gangwaylaw19_num.f bt541.2.1).bind fun t549 => (if t549 = 0 then (if (bt541.1.length : Int) = (t488.length : Int) then (gangwaylaw19_IovBack.l2 kj14 l0 x3_1 x7_14 bt541.1 0 t488 t491) else (none)) else (none)))) else (none))) else (none)) else (none)) else (none)) else (none)) else (none)) else (none)) else (none))) else (none))) else (none)))) = some r := H
 have A36 := am_ A360
 clear A360
 replace H := bm_ H
 obtain ⟨⟨t511, t512⟩, A370, H⟩ := H
 replace H : ((gangwaylaw19_num.f t498).bind fun t513 => (if t513 = 0 then ((gangwaylaw19_num.f t506).bind fun t514 => (if t514 = 0 then ((gangwaylaw19_num.f t512).bind fun t515 => (if t515 = 0 then (if t511 = x9_14 then (if (t503.length : Int) = x9_14 then (if t497 = (mn x9_14 (((rd_T26 l0 x3_1).f4).length : Int)) then (if 0 ≤ t497 then (if t497 ≤ (t503.length : Int) then (if t497 ≤ (((rd_T26 l0 x3_1).f4).length : Int) then ((gangwayref0_EqBytes.f kj14 (t503.take (t497 : Int).toNat) (((rd_T26 l0 x3_1).f4).take (t497 : Int).toNat)).bind fun t521 => (if t521 = true then ((mem_Memory_Read.f t507 t510 0 (t488.length : Int)).bind fun bt541 => ((gangwaylaw19_num.f bt541.2.1).bind fun t549 => (if t549 = 0 then (if (bt541.1.length : Int) = (t488.length : Int) then (gangwaylaw19_IovBack.l2 kj14 l0 x3_1 x7_14 bt541.1 0 t488 t491) else (none)) else (none)))) else (none))) else (none)) else (none)) else (none)) else (none)) else (none)) else (none)) else (none))) else (none))) else (none))) = some r := H
 have A37 := am_ A370
 clear A370
 replace H := bm_ H
 obtain ⟨t513, A380, H⟩ := H
 replace H : (if t513 = 0 then ((gangwaylaw19_num.f t506).bind fun t514 => (if t514 = 0 then ((gangwaylaw19_num.f t512).bind fun t515 => (if t515 = 0 then (if t511 = x9_14 then (if (t503.length : Int) = x9_14 then (if t497 = (mn x9_14 (((rd_T26 l0 x3_1).f4).length : Int)) then (if 0 ≤ t497 then (if t497 ≤ (t503.length : Int) then (if t497 ≤ (((rd_T26 l0 x3_1).f4).length : Int) then ((gangwayref0_EqBytes.f kj14 (t503.take (t497 : Int).toNat) (((rd_T26 l0 x3_1).f4).take (t497 : Int).toNat)).bind fun t521 => (if t521 = true then ((mem_Memory_Read.f t507 t510 0 (t488.length : Int)).bind fun bt541 => ((gangwaylaw19_num.f bt541.2.1).bind fun t549 => (if t549 = 0 then (if (bt541.1.length : Int) = (t488.length : Int) then (gangwaylaw19_IovBack.l2 kj14 l0 x3_1 x7_14 bt541.1 0 t488 t491) else (none)) else (none)))) else (none))) else (none)) else (none)) else (none)) else (none)) else (none)) else (none)) else (none))) else (none))) else (none)) = some r := H
 have A38 := am_ A380
 clear A380
 by_cases c39 : t513 = 0
 rotate_left
 ·rw [if_neg c39] at H
  exact absurd H (by simp)
 as_aux_lemma =>
 rw [if_pos c39] at H
 have c39b0 : (t513 == 0) = true := beq_iff_eq.mpr c39
 have c39b1 : (t513 != 0) = false := bne_eq_false_iff_eq.mpr c39
 clear c39
 replace H := bm_ H
 obtain ⟨t514, A400, H⟩ := H
 replace H : (if t514 = 0 then ((gangwaylaw19_num.f t512).bind fun t515 => (if t515 = 0 then (if t511 = x9_14 then (if (t503.length : Int) = x9_14 then (if t497 = (mn x9_14 (((rd_T26 l0 x3_1).f4).length : Int)) then (if 0 ≤ t497 then (if t497 ≤ (t503.length : Int) then (if t497 ≤ (((rd_T26 l0 x3_1).f4).length : Int) then ((gangwayref0_EqBytes.f kj14 (t503.take (t497 : Int).toNat) (((rd_T26 l0 x3_1).f4).take (t497 : Int).toNat)).bind fun t521 => (if t521 = true then ((mem_Memory_Read.f t507 t510 0 (t488.length : Int)).bind fun bt541 => ((gangwaylaw19_num.f bt541.2.1).bind fun t549 => (if t549 = 0 then (if (bt541.1.length : Int) = (t488.length : Int) then (gangwaylaw19_IovBack.l2 kj14 l0 x3_1 x7_14 bt541.1 0 t488 t491) else (none)) else (none)))) else (none))) else (none)) else (none)) else (none)) else (none)) else (none)) else (none)) else (none))) else (none)) = some r := H
 have A40 := am_ A400
 clear A400
 by_cases c41 : t514 = 0
 rotate_left
 ·rw [if_neg c41] at H
  exact absurd H (by simp)
 as_aux_lemma =>
 rw [if_pos c41] at H
 have c41b0 : (t514 == 0) = true := beq_iff_eq.mpr c41
 have c41b1 : (t514 != 0) = false := bne_eq_false_iff_eq.mpr c41
 clear c41
 replace H := bm_ H
 obtain ⟨t515, A420, H⟩ := H
 replace H : (if t515 = 0 then (if t511 = x9_14 then (if (t503.length : Int) = x9_14 then (if t497 = (mn x9_14 (((rd_T26 l0 x3_1).f4).length : Int)) then (if 0 ≤ t497 then (if t497 ≤ (t503.length : Int) then (if t497 ≤ (((rd_T26 l0 x3_1).f4).length : Int) then ((gangwayref0_EqBytes.f kj14 (t503.take (t497 : Int).toNat) (((rd_T26 l0 x3_1).f4).take (t497 : Int).toNat)).bind fun t521 => (if t521 = true then ((mem_Memory_Read.f t507 t510 0 (t488.length : Int)).bind fun bt541 => ((gangwaylaw19_num.f bt541.2.1).bind fun t549 => (if t549 = 0 then (if (bt541.1.length : Int) = (t488.length : Int) then (gangwaylaw19_IovBack.l2 kj14 l0 x3_1 x7_14 bt541.1 0 t488 t491) else (none)) else (none)))) else (none))) else (none)) else (none)) else (none)) else (none)) else (none)) else (none)) else (none)) = some r := H
 have A42 := am_ A420
 clear A420
 by_cases c43 : t515 = 0
 rotate_left
 ·rw [if_neg c43] at H
  exact absurd H (by simp)
 as_aux_lemma =>
 rw [if_pos c43] at H
 have c43b0 : (t515 == 0) = true := beq_iff_eq.mpr c43
 have c43b1 : (t515 != 0) = false := bne_eq_false_iff_eq.mpr c43
 clear c43
 by_cases c44 : t511 = x9_14
 rotate_left
 ·rw [if_neg c44] at H
  exact absurd H (by simp)
 as_aux_lemma =>
 rw [if_pos c44] at H
 have c44b0 : (t511 == x9_14) = true := beq_iff_eq.mpr c44
 have c44b1 : (t511 != x9_14) = false := bne_eq_false_iff_eq.mpr c44
 clear c44
 by_cases c45 : (t503.length : Int) = x9_14
 rotate_left
 ·rw [if_neg c45] at H
  exact absurd H (by simp)
 as_aux_lemma =>
 rw [if_pos c45] at H
 have c45b0 : ((t503.length : Int) == x9_14) = true := beq_iff_eq.mpr c45
 have c45b1 : ((t503.length : Int) != x9_14) = false := bne_eq_false_iff_eq.mpr c45
 clear c45
 obtain ⟨ji46, hji46⟩ : ∃ j_ : Int, (mn x9_14 (((rd_T26 l0 x3_1).f4).length : Int)) = j_ := ⟨_, rfl⟩
 replace H : (if t497 = (ji46) then (if 0 ≤ t497 then (if t497 ≤ (t503.length : Int) then (if t497 ≤ (((rd_T26 l0 x3_1).f4).length : Int) then ((gangwayref0_EqBytes.f kj14 (t503.take (t497 : Int).toNat) (((rd_T26 l0 x3_1).f4).take (t497 : Int).toNat)).bind fun t521 => (if t521 = true then ((mem_Memory_Read.f t507 t510 0 (t488.length : Int)).bind fun bt541 => ((gangwaylaw19_num.f bt541.2.1).bind fun t549 => (if t549 = 0 then (if (bt541.1.length : Int) = (t488.length : Int) then (gangwaylaw19_IovBack.l2 kj14 l0 x3_1 x7_14 bt541.1 0 t488 t491) else (none)) else (none)))) else (none))) else (none)) else (none)) else (none)) else (none)) = some r := by first | (rw [hji46] at H; exact H) | (simp only [hji46] at H ⊢; exact H)
 (try rw [hji46] at A35)
 (try rw [hji46] at A36)
 (try rw [hji46] at A37)
 (try rw [hji46] at A38)
 (try rw [hji46] at A40)
 (try rw [hji46] at A42)
 have hji46_ : (if (((rd_T26 l0 x3_1).f4).length : Int) < x9_14 then (((rd_T26 l0 x3_1).f4).length : Int) else x9_14) = ji46 := hji46
 by_cases c47 : t497 = (ji46)
 rotate_left
 ·rw [if_neg c47] at H
  exact absurd H (by simp)
 as_aux_lemma =>
 rw [if_pos c47] at H
 have c47b0 : (t497 == (ji46)) = true := beq_iff_eq.mpr c47
 have c47b1 : (t497 != (ji46)) = false := bne_eq_false_iff_eq.mpr c47
 clear c47
 by_cases c48 : 0 ≤ t497
 rotate_left
 ·rw [if_neg c48] at H
  exact absurd H (by simp)
 as_aux_lemma =>
 rw [if_pos c48] at H
 have c48b0 := eq_true c48
 have c48b1 : decide (0 ≤ t497) = true := decide_eq_true c48
 clear c48
 by_cases c49 : t497 ≤ (t503.length : Int)
 rotate_left
 ·rw [if_neg c49] at H
  exact absurd H (by simp)
 as_aux_lemma =>
 rw [if_pos c49] at H
 have c49b0 := eq_true c49
 have c49b1 : decide (t497 ≤ (t503.length : Int)) = true := decide_eq_true c49
 clear c49
 obtain ⟨y516, hy516⟩ : ∃ y_ : List Int, y_ = (t503.take (t497 : Int).toNat) := ⟨_, rfl⟩
 replace H : (if t497 ≤ (((rd_T26 l0 x3_1).f4).length : Int) then ((gangwayref0_EqBytes.f kj14 y516 (((rd_T26 l0 x3_1).f4).take (t497 : Int).toNat)).bind fun t521 => (if t521 = true then ((mem_Memory_Read.f t507 t510 0 (t488.length : Int)).bind fun bt541 => ((gangwaylaw19_num.f bt541.2.1).bind fun t549 => (if t549 = 0 then (if (bt541.1.length : Int) = (t488.length : Int) then (gangwaylaw19_IovBack.l2 kj14 l0 x3_1 x7_14 bt541.1 0 t488 t491) else (none)) else (none)))) else (none))) else (none)) = some r := by first | (rw [hy516]; with_reducible exact H) | (have H2_ := (Option.bind_some _ _).symm.trans H; rw [hy516]; with_reducible exact H2_) | (have H2_ := (Option.bind_some _ _).symm.trans H; with_reducible exact H2_) | with_reducible exact H | (rw [hy516]; exact H) | exact H
 have Ny516 := am_ hy516
 clear hy516
 have c50b0 := eq_true (of_decide_eq_true aa_3 : 0 ≤ t497)
 by_cases c51 : t497 ≤ (((rd_T26 l0 x3_1).f4).length : Int)
 rotate_left
 ·rw [if_neg c51] at H
  exact absurd H (by simp)
 as_aux_lemma =>
 rw [if_pos c51] at H
 have c51b0 := eq_true c51
 have c51b1 : decide (t497 ≤ (((rd_T26 l0 x3_1).f4).length : Int)) = true := decide_eq_true c51
 clear c51
 replace H := bm_ H
 obtain ⟨t521, A520, H⟩ := H
 replace H : (if t521 = true then ((mem_Memory_Read.f t507 t510 0 (t488.length : Int)).bind fun bt541 => ((gangwaylaw19_num.f bt541.2.1).bind fun t549 => (if t549 = 0 then (if (bt541.1.length : Int) = (t488.length : Int) then (gangwaylaw19_IovBack.l2 kj14 l0 x3_1 x7_14 bt541.1 0 t488 t491) else (none)) else (none)))) else (none)) = some r := H
 have A52 := am_ A520
 clear A520
 by_cases c53 : t521 = true
 rotate_left
 ·replace c53 := Bool.eq_false_iff.mpr c53
  subst c53
  have H1 : (none) = some r := by rw [if_neg (show ¬ (false = true) by decide)] at H; exact H
  clear H
  have H := H1
  clear H1
  exact absurd H (by simp)
 as_aux_lemma =>
 subst c53
 have H1 : ((mem_Memory_Read.f t507 t510 0 (t488.length : Int)).bind fun bt541 => ((gangwaylaw19_num.f bt541.2.1).bind fun t549 => (if t549 = 0 then (if (bt541.1.length : Int) = (t488.length : Int) then (gangwaylaw19_IovBack.l2 kj14 l0 x3_1 x7_14 bt541.1 0 t488 t491) else (none)) else (none)))) = some r := by rw [if_pos rfl] at H; exact H
 clear H
 have H := H1
 clear H1
 replace H := bm_ H
 obtain ⟨⟨t541, t544, t545, t548⟩, A540, H⟩ := H
 replace H : ((gangwaylaw19_num.f t544).bind fun t549 => (if t549 = 0 then (if (t541.length : Int) = (t488.length : Int) then (gangwaylaw19_IovBack.l2 kj14 l0 x3_1 x7_14 t541 0 t488 t491) else (none)) else (none))) = some r := H
 have A54 := am_ A540
 clear A540
 replace H := bm_ H
 obtain ⟨t549, A550, H⟩ := H
 replace H : (if t549 = 0 then (if (t541.length : Int) = (t488.length : Int) then (gangwaylaw19_IovBack.l2 kj14 l0 x3_1 x7_14 t541 0 t488 t491) else (none)) else (none)) = some r := H
 have A55 := am_ A550
 clear A550
 by_cases c56 : t549 = 0
 rotate_left
 ·rw [if_neg c56] at H
  exact absurd H (by simp)
 as_aux_lemma =>
 rw [if_pos c56] at H
 have c56b0 : (t549 == 0) = true := beq_iff_eq.mpr c56
 have c56b1 : (t549 != 0) = false := bne_eq_false_iff_eq.mpr c56
 clear c56
 by_cases c57 : (t541.length : Int) = (t488.length : Int)
 rotate_left
 ·rw [if_neg c57] at H
  exact absurd H (by simp)
 as_aux_lemma =>
 rw [if_pos c57] at H
 have c57b0 : ((t541.length : Int) == (t488.length : Int)) = true := beq_iff_eq.mpr c57
 have c57b1 : ((t541.length : Int) != (t488.length : Int)) = false := bne_eq_false_iff_eq.mpr c57
 have c57b2 : (t541.length == t488.length) = true := by first | simpa using c57 | (simp at c57 ⊢; omega)
 clear c57
 have H' := am_ H
 clear H
 have hnb58 := NB479_486.out
 have hnc58 := NB486_479.out
 have hnb59 := NB479_492.out
 have hnc59 := NB492_479.out
 have hcz60_0 : wc.cell? ⟨gb479, 0, none⟩ = some (.slice A478_0 ((rd_T26 l0 x3_1).f0).length c478_0) := bc BK479 0
 have hcz60_1 : wc.cell? ⟨gb479, 1, none⟩ = some (.int .i64 ((rd_T26 l0 x3_1).f1)) := bc BK479 1
 have hcz60_2 : wc.cell? ⟨gb479, 2, none⟩ = some (.int .i64 ((rd_T26 l0 x3_1).f2)) := bc BK479 2
 have hcz60_3 : wc.cell? ⟨gb479, 3, none⟩ = some (.slice A478_3 ((rd_T26 l0 x3_1).f3).length c478_3) := bc BK479 3
 have hcz60_4 : wc.cell? ⟨gb479, 4, none⟩ = some (.slice A478_4 ((rd_T26 l0 x3_1).f4).length c478_4) := bc BK479 4
 have hfz60_0 := blk_frozen BK479.out 0
 have hfz60_1 := blk_frozen BK479.out 1
 have hfz60_2 := blk_frozen BK479.out 2
 have hfz60_3 := blk_frozen BK479.out 3
 have hfz60_4 := blk_frozen BK479.out 4
 obtain ⟨Ao61, co61, eo61⟩ := Kd.R_slice HO_7.out
 subst eo61
 try go_wp2_with (first | ((with_reducible refine gate_callee (f := 15) rfl ?_); refine goesL_ (some 86) rfl rfl Try.func15 (by kernel_rfl) rfl #[.pointer (some ⟨g486, 0, none⟩), .slice Ao61 x7_14.length co61, .slice A478_4 ((rd_T26 l0 x3_1).f4).length c478_4] rfl aa_1 ?_; (with_reducible refine (iov_Scatter.calls kj14 g486 (fun k_ => some k_ = (v483 : Value).ownBlock) v483 t482 t485 _ _ x7_14 _ _ ((rd_T26 l0 x3_1).f4) t497 t498 t499 t502 w _ ?side1 ?side2 ?side3 ?side4 ?side5 ?side6 ?side7 A35.out).mono ?_); (case side1 => exact aa_9); (case side2 => exact aa_4); (case side3 => exact Kd.R_tight rfl HO_5z.out); (case side4 => exact Kd.C_kept_own ((IsS72.apart HI486.out (Kd.R_apart' HO_7.out (Kd.R_typed HO_5z.out) (by decide)) (by decide))) (fun k_ hk_ hs_ => Or.elim hs_ (fun hs_ => (hk_.1.2) hs_) (fun e_ => (hk_.2) e_))); (case side5 => exact (Kd.R_reads' HO_7.out).2.1); (case side6 => exact Kd.C_kept_came (Kd.heap_int .u8) HR478_4.out aa_4 (fun k_ hs_ => Or.elim hs_ (fun hs_ => (fun e_ => Kd.R_base HO_5z.out k_ e_.symm) hs_) (fun e_ => (by rw [e_]; exact IsS72.ge HI486.out)))); (case side7 => exact HC478_4.out); rintro e w62 ⟨v500, rfl, ho0, hi, hb, hkp⟩; refine ⟨_, rfl, ?_⟩; have n0_ := am_ (Kd.R_mono (ok' := fun k_ => True) (Kd.R_keptB ((IsS72.apart HI486.out (Kd.R_apart' HO_7.out (Kd.R_typed HO_5z.out) (by decide)) (by decide))) hkp (fun k_ hk_ hs_ => Or.elim hs_ (fun hs_ => (hk_.1.2) hs_) (fun e_ => (hk_.2) e_))) (fun k_ hk_ => trivial)); have n1_ := am_ (Kd.R_mono (ok' := fun k_ => some k_ ≠ (v500 : Value).ownBlock) (Kd.R_keptB ((IsS72.apart HI486.out HO_7z.out (by decide))) hkp (fun k_ hk_ hs_ => Or.elim hs_ (fun hs_ => (hk_.1) hs_) (fun e_ => (hk_.2) e_))) (fun k_ hk_ => fun e_ => Or.elim (ho0.1 k_ e_.symm) (fun hs_ => hk_.2.1 (.inl hs_)) (fun hn_ => Nat.not_le.2 hk_.2.2 hn_))); have n2_ := am_ (bkept BK479 aa_6 hkp (fun hs_ => Or.elim hs_ (fun hs_ => (fun e_ => (Kd.R_ne HO_5z.out BK479.out (by decide)) e_) hs_) (fun e_ => NB479_486.out e_))); have n3_ := am_ (hi); have n4_ := am_ (IsS57.kept aa_5 hkp (fun hs_ => Or.elim hs_ (fun hs_ => (fun e_ => (IsS57.own_ne HI492.out HO_5z.out (by decide)) e_) hs_) (fun e_ => NB492_486.out e_))); have n5_ := am_ (Kd.R_mono (ok' := fun k_ => some k_ ≠ (v489 : Value).ownBlock) ho0 (fun k_ hk_ => Or.elim hk_ (fun hs_ => fun e_ => ((((IsS72.apart HI486.out HO_7z.out (by decide))).1 k_ e_.symm).1) hs_) (fun hn_ => (Kd.fresh' (Kd.R_lt aa_8) k_ hn_)))); have n6_ := am_ (hb); clear HO_7; clear HO_7z; clear BK479; clear HI486; clear HI492; clear HB; clear HO_5z; have HO_7 := n0_; have HO_7z := n1_; have BK479 := n2_; have HI486 := n3_; have HI492 := n4_; have HO501 := n5_; have HB := n6_; clear n0_ n1_ n2_ n3_ n4_ n5_ n6_; (try clear hb); (try clear hkp); (try clear ho0)) | ((with_reducible refine gate_callee (f := 12) rfl ?_); refine goesL_ (some 92) rfl rfl Try.func12 (by kernel_rfl) rfl #[.pointer (some ⟨g486, 0, none⟩), .slice Ao61 x7_14.length co61] rfl aa_1 ?_; (with_reducible refine (iov_Gather.calls kj14 g486 (fun k_ => some k_ = (v500 : Value).ownBlock) v500 t499 t502 _ _ x7_14 t503 t506 t507 t510 w _ ?side1 ?side2 ?side3 ?side4 ?side5 A36.out).mono ?_); (case side1 => exact aa_9); (case side2 => exact aa_4); (case side3 => exact Kd.R_tight rfl HO501.out); (case side4 => exact Kd.C_kept_own ((IsS72.apart HI486.out (Kd.R_apart' HO_7.out (Kd.R_typed HO501.out) (by decide)) (by decide))) (fun k_ hk_ hs_ => Or.elim hs_ (fun hs_ => (hk_.1.2) hs_) (fun e_ => (hk_.2) e_))); (case side5 => exact (Kd.R_reads' HO_7.out).2.1); rintro e w63 ⟨v504, v508, rfl, ho0, ho1, hi, hb, hkp⟩; refine ⟨_, rfl, ?_⟩; have n0_ := am_ (Kd.R_mono (ok' := fun k_ => True) (Kd.R_keptB ((IsS72.apart HI486.out (Kd.R_apart' HO_7.out (Kd.R_typed HO501.out) (by decide)) (by decide))) hkp (fun k_ hk_ hs_ => Or.elim hs_ (fun hs_ => (hk_.1.2) hs_) (fun e_ => (hk_.2) e_))) (fun k_ hk_ => trivial)); have n1_ := am_ (Kd.R_mono (ok' := fun k_ => some k_ ≠ (v504 : Value).ownBlock ∧ some k_ ≠ (v508 : Value).ownBlock) (Kd.R_keptB ((IsS72.apart HI486.out HO_7z.out (by decide))) hkp (fun k_ hk_ hs_ => Or.elim hs_ (fun hs_ => (hk_.1) hs_) (fun e_ => (hk_.2) e_))) (fun k_ hk_ => ⟨fun e_ => Or.elim (ho0.1 k_ e_.symm).1 (fun hs_ => hk_.2.1 (.inl hs_)) (fun hn_ => Nat.not_le.2 hk_.2.2 hn_), fun e_ => Or.elim (ho1.1 k_ e_.symm).1 (fun hs_ => hk_.2.1 (.inl hs_)) (fun hn_ => Nat.not_le.2 hk_.2.2 hn_)⟩)); have n2_ := am_ (bkept BK479 aa_6 hkp (fun hs_ => Or.elim hs_ (fun hs_ => (fun e_ => (Kd.R_ne HO501.out BK479.out (by decide)) e_) hs_) (fun e_ => NB479_486.out e_))); have n3_ := am_ (hi); have n4_ := am_ (IsS57.kept aa_5 hkp (fun hs_ => Or.elim hs_ (fun hs_ => (fun e_ => (IsS57.own_ne HI492.out HO501.out (by decide)) e_) hs_) (fun e_ => NB492_486.out e_))); have n5_ := am_ (Kd.R_mono (ok' := fun k_ => some k_ ≠ (v508 : Value).ownBlock ∧ some k_ ≠ (v489 : Value).ownBlock) ho0 (fun k_ hk_ => ⟨hk_.2, Or.elim hk_.1 (fun hs_ => fun e_ => ((((IsS72.apart HI486.out HO_7z.out (by decide))).1 k_ e_.symm).1) hs_) (fun hn_ => (Kd.fresh' (Kd.R_lt aa_8) k_ hn_))⟩)); have n6_ := am_ (Kd.R_mono (ok' := fun k_ => some k_ ≠ (v504 : Value).ownBlock ∧ some k_ ≠ (v489 : Value).ownBlock) ho1 (fun k_ hk_ => ⟨hk_.2, Or.elim hk_.1 (fun hs_ => fun e_ => ((((IsS72.apart HI486.out HO_7z.out (by decide))).1 k_ e_.symm).1) hs_) (fun hn_ => (Kd.fresh' (Kd.R_lt aa_8) k_ hn_))⟩)); have n7_ := am_ (hb); clear HO_7; clear HO_7z; clear BK479; clear HI486; clear HI492; clear HB; clear HO501; have HO_7 := n0_; have HO_7z := n1_; have BK479 := n2_; have HI486 := n3_; have HI492 := n4_; have HO505 := n5_; have HO509 := n6_; have HB := n7_; clear n0_ n1_ n2_ n3_ n4_ n5_ n6_ n7_; (try clear hb); (try clear hkp); (try clear ho0); (try clear ho1)) | ((with_reducible refine gate_callee (f := 19) rfl ?_); refine goesL_ (some 97) rfl rfl Try.func19 (by kernel_rfl) rfl #[.slice Ao61 x7_14.length co61] rfl aa_1 ?_; (with_reducible refine (iov_Total.calls kj14 _ _ x7_14 t511 t512 _ ?side1 ?side2 A37.out).mono ?_); (case side1 => repeat (first | exact (Kd.R_reads' HO_7.out).2.2 | (with_reducible refine Kd.C_alloc ?_ _) | (with_reducible refine Kd.C_drewN ?_ _) | (with_reducible refine Kd.C_drew ?_))); (case side2 => exact (Kd.R_reads' HO_7.out).2.1); rintro e w64 ⟨rfl, hb⟩; refine ⟨_, rfl, ?_⟩; have n0_ := am_ (Kd.R_below (by (with_reducible repeat (first | apply Kd.R_alloc | apply Kd.R_drewN | apply Kd.R_drew)); exact HO_7.out) hb); have n1_ := am_ (Kd.R_below aa_8 hb); have n2_ := am_ (Kd.R_below (by (with_reducible repeat (first | apply Kd.R_alloc | apply Kd.R_drewN | apply Kd.R_drew)); exact HO505.out) hb); have n3_ := am_ (Kd.R_below (by (with_reducible repeat (first | apply Kd.R_alloc | apply Kd.R_drewN | apply Kd.R_drew)); exact HO509.out) hb); have n4_ := am_ (bbelow BK479 aa_6 hb); have n5_ := am_ (IsS72.below (by repeat (first | (with_reducible first | exact HI486.out | apply IsS72.alloc | apply IsS72.drewN | apply IsS72.drew | apply IsS72.set_0 | apply IsS72.set_1 | refine IsS72.far ?_ NB486_479.out _) | exact HI486.out)) hb); have n6_ := am_ (IsS57.below aa_5 hb); have n7_ := am_ (below_step aa_4 hb); clear HO_7; clear HO_7z; clear HO505; clear HO509; clear BK479; clear HI486; clear HI492; clear HB; have HO_7 := n0_; have HO_7z := n1_; have HO505 := n2_; have HO509 := n3_; have BK479 := n4_; have HI486 := n5_; have HI492 := n6_; have HB := n7_; clear n0_ n1_ n2_ n3_ n4_ n5_ n6_ n7_; (try clear hb); (try clear hb2); (try clear hk); (try clear hi)))
 have n0_ := am_ (Kd.R_drew HO_7.out)
 have n1_ := am_ (Kd.R_drew HO_7z.out)
 have n2_ := am_ (Kd.R_drew HO505.out)
 have n3_ := am_ (Kd.R_drew HO509.out)
 have n4_ := am_ (blk_drew BK479.out)
 have n5_ := am_ (IsS72.drew HI486.out)
 have n6_ := am_ (IsS57.drew HI492.out)
 have n7_ := am_ (below_drew1 HB.out)
 clear HO_7
 clear HO_7z
 clear HO505
 clear HO509
 clear BK479
 clear HI486
 clear HI492
 clear HB
 have HO_7 := n0_
 have HO_7z := n1_
 have HO505 := n2_
 have HO509 := n3_
 have BK479 := n4_
 have HI486 := n5_
 have HI492 := n6_
 have HB := n7_
 clear n0_ n1_ n2_ n3_ n4_ n5_ n6_ n7_
 obtain ⟨Ao66, co66, eo66⟩ := Kd.R_slice HO505.out
 (first | subst eo66 | (injection eo66 with f1_ f2_ f3_; have f4_ := f1_.symm; have f5_ := f3_.symm; clear f1_ f2_ f3_; subst f4_; subst f5_))
 refine start_ (n := 44) (S := fun w' => w'.cell? ⟨gb479, 0, none⟩ = some (.slice A478_0 ((rd_T26 l0 x3_1).f0).length c478_0) ∧ w'.cell? ⟨gb479, 1, none⟩ = some (.int .i64 ((rd_T26 l0 x3_1).f1)) ∧ w'.cell? ⟨gb479, 2, none⟩ = some (.int .i64 ((rd_T26 l0 x3_1).f2)) ∧ w'.cell? ⟨gb479, 3, none⟩ = some (.slice A478_3 ((rd_T26 l0 x3_1).f3).length c478_3) ∧ w'.cell? ⟨gb479, 4, none⟩ = some (.slice A478_4 ((rd_T26 l0 x3_1).f4).length c478_4)) (ds := []) bb97_ (by kernel_rfl) rfl rfl ⟨bc BK479 0, bc BK479 1, bc BK479 2, bc BK479 3, bc BK479 4⟩ (fun hHeld => ?_); refine with_tabW gangwaylaw19_IovBack.tab23 gangwaylaw19_IovBack.bits23 (fun HT_ HW_ => ?_)
 generalize w64.drew = w65 at HO_7 HO_7z HO505 HO509 BK479 HI486 HI492 HB hHeld ⊢
 refine pure_ (i := 0) (N := some 100) (v := ?_) (a' := ?_) bb96_ rfl rfl (any_of HT_.out (by kernel_rfl)) (fun _ _ _ h => h) (Or.inl ⟨by rfl, ?_⟩) ?_ ?_
 rotate_left; · intro w'; go_simp; with_reducible rfl
 rotate_left; · simp only [Act.put, e1, e2, e3, i64_w, i32_w]; rfl
 refine one_ (i := 1) (N := some 101) bb95_ rfl rfl (one_of HT_.out (by kernel_rfl)) (by decide) (fun K hK => ?_)
 refine goes_ Try.func9 (by kernel_rfl) rfl #[.int .i64 t498] (by rfl) rfl rfl aa_1 ?_
 with_reducible refine (gangwaylaw19_num.calls t498 t513 _ A38.out).mono ?_
 rintro e w' ⟨rfl, ⟨nd, rfl⟩⟩
 refine ⟨_, rfl, ?_⟩
 refine hK.out _ _ ⟨bc BK479 0, bc BK479 1, bc BK479 2, bc BK479 3, bc BK479 4⟩ (fun hHeld => ?_)
 clear hK K
 refine norm_ (a' := ?_) ?_ ?_
 rotate_left
 ·show Act.put _ (some 101) _ = _
  simp only [Act.put, e1, e2, e3, i64_w, i32_w]
  rfl
 refine pure_ (i := 2) (N := some 102) (v := ?_) (a' := ?_) bb94_ rfl rfl (any_of HT_.out (by kernel_rfl)) (fun _ _ _ h => h) (Or.inl ⟨by rfl, ?_⟩) ?_ ?_
 rotate_left; · intro w'; go_simp; with_reducible rfl
 rotate_left; · simp only [Act.put, e1, e2, e3, i64_w, i32_w]; rfl
 refine pure_ (i := 3) (N := some 103) (v := ?_) (a' := ?_) bb93_ rfl rfl (any_of HT_.out (by kernel_rfl)) (fun _ _ _ h => h) (Or.inl ⟨by rfl, ?_⟩) ?_ ?_
 rotate_left; · intro w'; go_simp; with_reducible rfl
 rotate_left; · simp only [Act.put, e1, e2, e3, i64_w, i32_w]; rfl
 refine pure_ (i := 4) (N := some 104) (v := ?_) (a' := ?_) bb92_ rfl rfl (any_of HT_.out (by kernel_rfl)) (fun _ _ _ h => h) (Or.inl ⟨by rfl, ?_⟩) ?_ ?_
 rotate_left; · intro w'; go_simp; with_reducible rfl
 rotate_left; · simp only [Act.put, e1, e2, e3, i64_w, i32_w]; rfl
 refine one_ (i := 5) (N := some 105) bb91_ rfl rfl (one_of HT_.out (by kernel_rfl)) (by decide) (fun K hK => ?_)
 refine goes_ Try.func9 (by kernel_rfl) rfl #[.int .i64 t506] (by rfl) rfl rfl aa_1 ?_
 with_reducible refine (gangwaylaw19_num.calls t506 t514 _ A40.out).mono ?_
 rintro e w' ⟨rfl, ⟨nd, rfl⟩⟩
 refine ⟨_, rfl, ?_⟩
 refine hK.out _ _ ⟨bc BK479 0, bc BK479 1, bc BK479 2, bc BK479 3, bc BK479 4⟩ (fun hHeld => ?_)
 clear hK K
 refine norm_ (a' := ?_) ?_ ?_
 rotate_left
 ·show Act.put _ (some 105) _ = _
  simp only [Act.put, e1, e2, e3, i64_w, i32_w]
  rfl
 refine pure_ (i := 6) (N := some 106) (v := ?_) (a' := ?_) bb90_ rfl rfl (any_of HT_.out (by kernel_rfl)) (fun _ _ _ h => h) (Or.inl ⟨by rfl, ?_⟩) ?_ ?_
 rotate_left; · intro w'; go_simp; with_reducible rfl
 rotate_left; · simp only [Act.put, e1, e2, e3, i64_w, i32_w]; rfl
 refine pure_ (i := 7) (N := some 107) (v := ?_) (a' := ?_) bb89_ rfl rfl (any_of HT_.out (by kernel_rfl)) (fun _ _ _ h => h) (Or.inl ⟨by rfl, ?_⟩) ?_ ?_
 rotate_left; · intro w'; go_simp; with_reducible rfl
 rotate_left; · simp only [Act.put, e1, e2, e3, i64_w, i32_w]; rfl
 refine pure_ (i := 8) (N := some 108) (v := ?_) (a' := ?_) bb88_ rfl rfl (any_of HT_.out (by kernel_rfl)) (fun _ _ _ h => h) (Or.inl ⟨by rfl, ?_⟩) ?_ ?_
 rotate_left; · intro w'; go_simp; with_reducible rfl
 rotate_left; · simp only [Act.put, e1, e2, e3, i64_w, i32_w]; rfl
 refine pure_ (i := 9) (N := some 109) (v := ?_) (a' := ?_) bb87_ rfl rfl (any_of HT_.out (by kernel_rfl)) (fun _ _ _ h => h) (Or.inl ⟨by rfl, ?_⟩) ?_ ?_
 rotate_left; · intro w'; go_simp; with_reducible rfl
 rotate_left; · simp only [Act.put, e1, e2, e3, i64_w, i32_w]; rfl
 refine one_ (i := 10) (N := some 110) bb86_ rfl rfl (one_of HT_.out (by kernel_rfl)) (by decide) (fun K hK => ?_)
 refine goes_ Try.func9 (by kernel_rfl) rfl #[.int .i64 t512] (by rfl) rfl rfl aa_1 ?_
 with_reducible refine (gangwaylaw19_num.calls t512 t515 _ A42.out).mono ?_
 rintro e w' ⟨rfl, ⟨nd, rfl⟩⟩
 refine ⟨_, rfl, ?_⟩
 have q67 : (t497 : Int) ≤ ((t503.length : Int) : Int) := of_decide_eq_true aa_3
 obtain ⟨i067, hi067, _, hsz67, _⟩ := info_parts info5
 have hroom67 : t503.length ≤ co66 := (Kd.R_reads' HO505.out).2.1
 have hC67 : Kd.C (Kd.int .u8) _ Ao66 t503.length t503 := (Kd.R_reads' HO505.out).2.2
 have hcut67 := cut_to (P := Try.prog) 23 5 .i64 Try.underlying23 hi067 Ao66 t503.length co66 t497 (of_decide_eq_true aa_3) q67 hroom67
 have hr67 := Kd.C_take (m := (t497 : Int).toNat) hC67 (by omega)
 have hy67 : y516.length = (t497 : Int).toNat := (by rw [Ny516.out, List.length_take]; omega)
 rw [← Ny516.out] at hr67
 rw [← hy67] at hcut67
 have HR519 := am_ hr67
 have HC519 := am_ (show y516.length ≤ co66 from by omega)
 clear hr67 hC67 hroom67 hi067 hsz67
 have KY67 := am_ hy67
 clear hy67
 have KL67 := am_ (show (t497 : Int).toNat ≤ t503.length from by omega)
 replace q67 := eq_true q67
 obtain ⟨i068, hi068, _, hsz68, _⟩ := info_parts info5
 obtain ⟨hcut68, hA68, hC68⟩ := print_take_of (P := Try.prog) (Value.int .u8) 0 23 5 .i64 Try.underlying23 hi068 hsz68 A478_4 c478_4 ((rd_T26 l0 x3_1).f4) t497 (of_decide_eq_true aa_3) (of_decide_eq_true aa_3) HC478_4.out
 have HR520 := am_ (Kd.C_of_reads (h1 := fun _ => rfl) (hA68 _ (Kd.reads_of_C HR478_4.out)))
 have HC520 := am_ hC68
 clear hA68 hC68 hi068 hsz68
 refine hK.out _ _ ⟨bc BK479 0, bc BK479 1, bc BK479 2, bc BK479 3, bc BK479 4⟩ (fun hHeld => ?_)
 clear hK K
 refine norm_ (a' := ?_) ?_ ?_
 rotate_left
 ·show Act.put _ (some 110) _ = _
  simp only [Act.put, e1, e2, e3, i64_w, i32_w]
  rfl
 refine pure_ (i := 11) (N := some 111) (v := ?_) (a' := ?_) bb85_ rfl rfl (any_of HT_.out (by kernel_rfl)) (fun _ _ _ h => h) (Or.inl ⟨by rfl, ?_⟩) ?_ ?_
 rotate_left; · intro w'; go_simp; with_reducible rfl
 rotate_left; · simp only [Act.put, e1, e2, e3, i64_w, i32_w]; rfl
 refine pure_ (i := 12) (N := some 112) (v := ?_) (a' := ?_) bb84_ rfl rfl (any_of HT_.out (by kernel_rfl)) (fun _ _ _ h => h) (Or.inl ⟨by rfl, ?_⟩) ?_ ?_
 rotate_left; · intro w'; go_simp; with_reducible rfl
 rotate_left; · simp only [Act.put, e1, e2, e3, i64_w, i32_w]; rfl
 refine pure_ (i := 13) (N := some 113) (v := ?_) (a' := ?_) bb83_ rfl rfl (any_of HT_.out (by kernel_rfl)) (fun _ _ _ h => h) (Or.inl ⟨by rfl, ?_⟩) ?_ ?_
 rotate_left; · intro w'; go_simp; with_reducible rfl
 rotate_left; · simp only [Act.put, e1, e2, e3, i64_w, i32_w]; rfl
 refine pure_ (i := 14) (N := some 114) (v := ?_) (a' := ?_) bb82_ rfl rfl (any_of HT_.out (by kernel_rfl)) (fun _ _ _ h => h) (Or.inl ⟨by rfl, ?_⟩) ?_ ?_
 rotate_left; · intro w'; go_simp; with_reducible rfl
 rotate_left; · simp only [Act.put, e1, e2, e3, i64_w, i32_w]; rfl
 refine pure_ (i := 15) (N := some 115) (v := ?_) (a' := ?_) bb81_ rfl rfl (any_of HT_.out (by kernel_rfl)) (fun _ _ _ h => h) (Or.inl ⟨by rfl, ?_⟩) ?_ ?_
 rotate_left; · intro w'; go_simp; with_reducible rfl
 rotate_left; · simp only [Act.put, e1, e2, e3, i64_w, i32_w]; rfl
 refine pure_ (i := 16) (N := some 116) (v := ?_) (a' := ?_) bb80_ rfl rfl (any_of HT_.out (by kernel_rfl)) (fun _ _ _ h => h) (Or.inl ⟨by rfl, ?_⟩) ?_ ?_
 rotate_left; · intro w'; go_simp; with_reducible rfl
 rotate_left; · simp only [Act.put, e1, e2, e3, i64_w, i32_w]; rfl
 refine pure_ (i := 17) (N := some 117) (v := ?_) (a' := ?_) bb79_ rfl rfl (any_of HT_.out (by kernel_rfl)) (fun _ _ _ h => h) (Or.inl ⟨by rfl, ?_⟩) ?_ ?_
 rotate_left; · intro w'; go_simp; with_reducible rfl
 rotate_left; · simp only [Act.put, e1, e2, e3, i64_w, i32_w]; rfl
 refine pure_ (i := 18) (N := some 118) (v := ?_) (a' := ?_) bb78_ rfl rfl (any_of HT_.out (by kernel_rfl)) (fun _ _ _ h => h) (Or.inl ⟨by rfl, ?_⟩) ?_ ?_
 rotate_left; · intro w'; go_simp; with_reducible rfl
 rotate_left; · simp only [Act.put, e1, e2, e3, i64_w, i32_w]; rfl
 refine pure_ (i := 19) (N := some 119) (v := ?_) (a' := ?_) bb77_ rfl rfl (any_of HT_.out (by kernel_rfl)) (fun _ _ _ h => h) (Or.inl ⟨by rfl, ?_⟩) ?_ ?_
 rotate_left; · intro w'; go_simp; with_reducible rfl
 rotate_left; · simp only [Act.put, e1, e2, e3, i64_w, i32_w]; rfl
 refine pure_ (i := 20) (N := some 120) (v := ?_) (a' := ?_) bb76_ rfl rfl (any_of HT_.out (by kernel_rfl)) (fun _ _ _ h => h) (Or.inl ⟨by rfl, ?_⟩) ?_ ?_
 rotate_left; · intro w'; go_simp; with_reducible rfl
 rotate_left; · simp only [Act.put, e1, e2, e3, i64_w, i32_w]; rfl
 refine pure_ (i := 21) (N := some 121) (v := ?_) (a' := ?_) bb75_ rfl rfl (any_of HT_.out (by kernel_rfl)) (fun _ _ _ h => h) (Or.inl ⟨by rfl, ?_⟩) ?_ ?_
 rotate_left; · intro w'; go_simp; with_reducible rfl
 rotate_left; · simp only [Act.put, e1, e2, e3, i64_w, i32_w]; rfl
 refine pure_ (i := 22) (N := some 122) (v := ?_) (a' := ?_) bb74_ rfl rfl (any_of HT_.out (by kernel_rfl)) (fun _ _ _ h => h) (Or.inl ⟨by rfl, ?_⟩) ?_ ?_
 rotate_left; · intro w'; go_simp; with_reducible rfl
 rotate_left; · simp only [Act.put, e1, e2, e3, i64_w, i32_w]; rfl
 refine pure_ (i := 23) (N := some 123) (v := ?_) (a' := ?_) bb73_ rfl rfl (any_of HT_.out (by kernel_rfl)) (fun _ _ _ h => h) (Or.inl ⟨by rfl, ?_⟩) ?_ ?_
 rotate_left; · intro w'; go_simp; with_reducible rfl
 rotate_left; · simp only [Act.put, e1, e2, e3, i64_w, i32_w]; rfl
 refine pure_ (i := 24) (N := some 124) (v := ?_) (a' := ?_) bb72_ rfl rfl (any_of HT_.out (by kernel_rfl)) (fun _ _ _ h => h) (Or.inl ⟨by rfl, ?_⟩) ?_ ?_
 rotate_left; · intro w'; go_simp; with_reducible rfl
 rotate_left; · simp only [Act.put, e1, e2, e3, i64_w, i32_w]; rfl
 refine pure_ (i := 25) (N := some 125) (v := ?_) (a' := ?_) bb71_ rfl rfl (any_of HT_.out (by kernel_rfl)) (fun _ _ _ h => h) (Or.inl ⟨by rfl, ?_⟩) ?_ ?_
 rotate_left; · intro w'; go_simp; with_reducible rfl
 rotate_left; · simp only [Act.put, e1, e2, e3, i64_w, i32_w]; rfl
 refine pure_ (i := 26) (N := some 126) (v := ?_) (a' := ?_) bb70_ rfl rfl (any_of HT_.out (by kernel_rfl)) (fun _ _ _ h => h) (Or.inl ⟨by rfl, ?_⟩) ?_ ?_
 rotate_left; · intro w'; go_simp; with_reducible rfl
 rotate_left; · simp only [Act.put, e1, e2, e3, i64_w, i32_w]; rfl
 refine pure_ (i := 27) (N := some 127) (v := ?_) (a' := ?_) bb69_ rfl rfl (any_of HT_.out (by kernel_rfl)) (fun _ _ _ h => h) (Or.inl ⟨by rfl, ?_⟩) ?_ ?_
 rotate_left; · intro w'; go_simp; with_reducible rfl
 rotate_left; · simp only [Act.put, e1, e2, e3, i64_w, i32_w]; rfl
 refine take_ (i := 28) (N := some 128) (v := ?_) (a' := ?_) bb68_ rfl rfl (take_ofW HT_.out HW_.out (by kernel_rfl)) (fun _ _ _ h => h) (Or.inl ⟨by rfl, ?_⟩) hHeld ?_ ?_
 rotate_left; · rintro w' ⟨s0, s1, s2, s3, s4⟩; go_simp; with_reducible rfl
 rotate_left; · simp only [Act.put, e1, e2, e3, i64_w, i32_w]; rfl
 refine pure_ (i := 29) (N := some 129) (v := ?_) (a' := ?_) bb67_ rfl rfl (any_of HT_.out (by kernel_rfl)) (fun _ _ _ h => h) (Or.inl ⟨by rfl, ?_⟩) ?_ ?_
 rotate_left; · intro w'; go_simp; with_reducible rfl
 rotate_left; · simp only [Act.put, e1, e2, e3, i64_w, i32_w]; rfl
 refine pure_ (i := 30) (N := some 130) (v := ?_) (a' := ?_) bb66_ rfl rfl (any_of HT_.out (by kernel_rfl)) (fun _ _ _ h => h) (Or.inl ⟨by rfl, ?_⟩) ?_ ?_
 rotate_left; · intro w'; go_simp; with_reducible rfl
 rotate_left; · simp only [Act.put, e1, e2, e3, i64_w, i32_w]; rfl
 refine pure_ (i := 31) (N := some 131) (v := ?_) (a' := ?_) bb65_ rfl rfl (any_of HT_.out (by kernel_rfl)) (fun _ _ _ h => h) (Or.inl ⟨by rfl, ?_⟩) ?_ ?_
 rotate_left; · intro w'; go_simp; with_reducible rfl
 rotate_left; · simp only [Act.put, e1, e2, e3, i64_w, i32_w]; rfl
 refine pure_ (i := 32) (N := some 132) (v := ?_) (a' := ?_) bb64_ rfl rfl (any_of HT_.out (by kernel_rfl)) (fun _ _ _ h => h) (Or.inl ⟨by rfl, ?_⟩) ?_ ?_
 rotate_left; · intro w'; go_simp; with_reducible rfl
 rotate_left; · simp only [Act.put, e1, e2, e3, i64_w, i32_w]; rfl
 refine pure_ (i := 33) (N := some 133) (v := ?_) (a' := ?_) bb63_ rfl rfl (any_of HT_.out (by kernel_rfl)) (fun _ _ _ h => h) (Or.inl ⟨by rfl, ?_⟩) ?_ ?_
 rotate_left; · intro w'; go_simp; with_reducible rfl
 rotate_left; · simp only [Act.put, e1, e2, e3, i64_w, i32_w]; rfl
 refine pure_ (i := 34) (N := some 134) (v := ?_) (a' := ?_) bb62_ rfl rfl (any_of HT_.out (by kernel_rfl)) (fun _ _ _ h => h) (Or.inl ⟨by rfl, ?_⟩) ?_ ?_
 rotate_left; · intro w'; go_simp; with_reducible rfl
 rotate_left; · simp only [Act.put, e1, e2, e3, i64_w, i32_w]; rfl
 refine pure_ (i := 35) (N := some 135) (v := ?_) (a' := ?_) bb61_ rfl rfl (any_of HT_.out (by kernel_rfl)) (fun _ _ _ h => h) (Or.inl ⟨by rfl, ?_⟩) ?_ ?_
 rotate_left; · intro w'; go_simp; with_reducible rfl
 rotate_left; · simp only [Act.put, e1, e2, e3, i64_w, i32_w]; rfl
 refine pure_ (i := 36) (N := some 136) (v := ?_) (a' := ?_) bb60_ rfl rfl (any_of HT_.out (by kernel_rfl)) (fun _ _ _ h => h) (Or.inl ⟨by rfl, ?_⟩) ?_ ?_
 rotate_left; · intro w'; go_simp; with_reducible rfl
 rotate_left; · simp only [Act.put, e1, e2, e3, i64_w, i32_w]; rfl
 refine pure_ (i := 37) (N := some 137) (v := ?_) (a' := ?_) bb59_ rfl rfl (any_of HT_.out (by kernel_rfl)) (fun _ _ _ h => h) (Or.inl ⟨by rfl, ?_⟩) ?_ ?_
 rotate_left; · intro w'; go_simp; with_reducible rfl
 rotate_left; · simp only [Act.put, e1, e2, e3, i64_w, i32_w]; rfl
 refine pure_ (i := 39) (N := some 139) (v := ?_) (a' := ?_) bb58_ rfl rfl (any_of HT_.out (by kernel_rfl)) (fun _ _ _ h => h) (Or.inl ⟨by rfl, ?_⟩) ?_ ?_
 rotate_left; · intro w'; go_simp; with_reducible rfl
 rotate_left; · simp only [Act.put, e1, e2, e3, i64_w, i32_w]; rfl
 refine take_ (i := 38) (N := some 138) (v := ?_) (a' := ?_) bb57_ rfl rfl (take_ofW HT_.out HW_.out (by kernel_rfl)) (fun _ _ _ h => h) (Or.inl ⟨by rfl, ?_⟩) hHeld ?_ ?_
 rotate_left; · rintro w' ⟨s0, s1, s2, s3, s4⟩; go_simp; with_reducible rfl
 rotate_left; · simp only [Act.put, e1, e2, e3, i64_w, i32_w]; rfl
 refine pure_ (i := 40) (N := some 140) (v := ?_) (a' := ?_) bb56_ rfl rfl (any_of HT_.out (by kernel_rfl)) (fun _ _ _ h => h) (Or.inl ⟨by rfl, ?_⟩) ?_ ?_
 rotate_left; · intro w'; go_simp; with_reducible rfl
 rotate_left; · simp only [Act.put, e1, e2, e3, i64_w, i32_w]; rfl
 refine one_ (i := 41) (N := some 141) bb55_ rfl rfl (one_of HT_.out (by kernel_rfl)) (by decide) (fun K hK => ?_)
 refine goes_ Try.func13 (by kernel_rfl) rfl #[.slice Ao66 y516.length co66, .slice A478_4 (((rd_T26 l0 x3_1).f4).take (t497 : Int).toNat).length c478_4] (by rfl) rfl rfl (by (try simp only [List.map_toArray, List.map_cons, List.map_nil]); first | done | (rw [show (((rd_T26 l0 x3_1).f4).take (t497 : Int).toNat).length = t497.toNat from (by rw [List.length_take]; have h_ : (t497 : Int) ≤ (((rd_T26 l0 x3_1).f4).length : Int) := of_decide_eq_true aa_3; omega)] <;> rfl) | rfl | (simp only [List.length_drop, List.length_take]; rfl)) ?_
 with_reducible refine (gangwayref0_EqBytes.calls kj14 _ _ y516 _ _ (((rd_T26 l0 x3_1).f4).take (t497 : Int).toNat) true _ ?side1 ?side2 ?side3 ?side4 A52.out).mono ?_
 (case side1 => repeat (first | exact (by repeat (first | (with_reducible exact HR519.out) | (with_reducible refine Kd.C_alloc ?_ _) | (with_reducible refine Kd.C_drewN ?_ _) | (with_reducible refine Kd.C_drew ?_) | exact HR519.out)) | (with_reducible refine Kd.C_alloc ?_ _) | (with_reducible refine Kd.C_drewN ?_ _) | (with_reducible refine Kd.C_drew ?_)))
 (case side2 => exact HC519.out)
 (case side3 => repeat (first | exact (Kd.C_below HR520.out aa_4) | (with_reducible refine Kd.C_alloc ?_ _) | (with_reducible refine Kd.C_drewN ?_ _) | (with_reducible refine Kd.C_drew ?_)))
 (case side4 => exact HC520.out)
 rintro e w' ⟨rfl, ⟨nd, rfl⟩⟩
 refine ⟨_, rfl, ?_⟩
 refine hK.out _ _ ⟨bc BK479 0, bc BK479 1, bc BK479 2, bc BK479 3, bc BK479 4⟩ (fun hHeld => ?_)
 clear hK K
 refine norm_ (a' := ?_) ?_ ?_
 rotate_left
 ·show Act.put _ (some 141) _ = _
  simp only [Act.put, e1, e2, e3, i64_w, i32_w]
  rfl
 refine pure_ (i := 42) (N := some 142) (v := ?_) (a' := ?_) bb54_ rfl rfl (any_of HT_.out (by kernel_rfl)) (fun _ _ _ h => h) (Or.inl ⟨by rfl, ?_⟩) ?_ ?_
 rotate_left; · intro w'; go_simp; with_reducible rfl
 rotate_left; · simp only [Act.put, e1, e2, e3, i64_w, i32_w]; rfl
 refine pure_ (i := 43) (N := some 143) (v := ?_) (a' := ?_) bb53_ rfl rfl (any_of HT_.out (by kernel_rfl)) (fun _ _ _ h => h) (Or.inl ⟨by rfl, ?_⟩) ?_ ?_
 rotate_left; · intro w'; go_simp; with_reducible rfl
 rotate_left; · simp only [Act.put, e1, e2, e3, i64_w, i32_w]; rfl
 refine done_ (done_of HT_.out (by kernel_rfl)) ?_
 obtain ⟨HGz69, hgz69⟩ := HI492.out
 have hcz69_0 := cellS57_0 HGz69
 have hcz69_1 := cellS57_1 HGz69
 have hfz69_0 := blk_frozen HGz69 0
 have hfz69_1 := blk_frozen HGz69 1
 clear HGz69 hgz69
 obtain ⟨Ao70, co70, eo70⟩ := Kd.R_slice HO_7z.out
 subst eo70
 try go_wp2_with (first | ((with_reducible refine gate_callee (f := 21) rfl ?_); refine goesL_ (some 151) rfl rfl Try.func21 (by kernel_rfl) rfl #[.pointer (some ⟨g486, 0, none⟩), .int .i64 0, .int .i64 (t488.length : Int)] rfl aa_1 ?_; (with_reducible refine (mem_Memory_Read.calls g486 (fun k_ => some k_ = (v508 : Value).ownBlock) v508 t507 t510 0 (t488.length : Int) t541 t544 t545 t548 w _ ?side1 ?side2 ?side3 A54.out).mono ?_); (case side1 => exact aa_9); (case side2 => exact aa_4); (case side3 => exact Kd.R_tight rfl HO509.out); rintro e w71 ⟨v542, v546, rfl, ho0, ho1, hi, hb, hkp⟩; refine ⟨_, rfl, ?_⟩; have n0_ := am_ (Kd.R_mono (ok' := fun k_ => True) (Kd.R_keptB ((IsS72.apart HI486.out (Kd.R_apart' HO_7.out (Kd.R_typed HO509.out) (by decide)) (by decide))) hkp (fun k_ hk_ hs_ => Or.elim hs_ (fun hs_ => (hk_.1.2) hs_) (fun e_ => (hk_.2) e_))) (fun k_ hk_ => trivial)); have n1_ := am_ (Kd.R_mono (ok' := fun k_ => some k_ ≠ (.slice Ao66 t503.length co66 : Value).ownBlock ∧ some k_ ≠ (v542 : Value).ownBlock ∧ some k_ ≠ (v546 : Value).ownBlock) (Kd.R_keptB ((IsS72.apart HI486.out HO_7z.out (by decide))) hkp (fun k_ hk_ hs_ => Or.elim hs_ (fun hs_ => (hk_.1.2) hs_) (fun e_ => (hk_.2) e_))) (fun k_ hk_ => ⟨hk_.1.1.1, fun e_ => Or.elim (ho0.1 k_ e_.symm).1 (fun hs_ => hk_.2.1 (.inl hs_)) (fun hn_ => Nat.not_le.2 hk_.2.2 hn_), fun e_ => Or.elim (ho1.1 k_ e_.symm).1 (fun hs_ => hk_.2.1 (.inl hs_)) (fun hn_ => Nat.not_le.2 hk_.2.2 hn_)⟩)); have n2_ := am_ (bkept BK479 aa_6 hkp (fun hs_ => Or.elim hs_ (fun hs_ => (fun e_ => (Kd.R_ne HO509.out BK479.out (by decide)) e_) hs_) (fun e_ => NB479_486.out e_))); have n3_ := am_ (hi); have n4_ := am_ (IsS57.kept aa_5 hkp (fun hs_ => Or.elim hs_ (fun hs_ => (fun e_ => (IsS57.own_ne HI492.out HO509.out (by decide)) e_) hs_) (fun e_ => NB492_486.out e_))); have n5_ := am_ (Kd.R_mono (ok' := fun k_ => some k_ ≠ (.slice Ao70 t488.length co70 : Value).ownBlock ∧ some k_ ≠ (v542 : Value).ownBlock ∧ some k_ ≠ (v546 : Value).ownBlock) (Kd.R_keptB ((IsS72.apart HI486.out HO505.out (by decide))) hkp (fun k_ hk_ hs_ => Or.elim hs_ (fun hs_ => (hk_.1.1) hs_) (fun e_ => (hk_.2) e_))) (fun k_ hk_ => ⟨hk_.1.1.2, fun e_ => Or.elim (ho0.1 k_ e_.symm).1 (fun hs_ => hk_.2.1 (.inl hs_)) (fun hn_ => Nat.not_le.2 hk_.2.2 hn_), fun e_ => Or.elim (ho1.1 k_ e_.symm).1 (fun hs_ => hk_.2.1 (.inl hs_)) (fun hn_ => Nat.not_le.2 hk_.2.2 hn_)⟩)); have n6_ := am_ (Kd.R_mono (ok' := fun k_ => some k_ ≠ (v546 : Value).ownBlock ∧ some k_ ≠ (.slice Ao70 t488.length co70 : Value).ownBlock ∧ some k_ ≠ (.slice Ao66 t503.length co66 : Value).ownBlock) ho0 (fun k_ hk_ => ⟨hk_.2, Or.elim hk_.1 (fun hs_ => fun e_ => ((((IsS72.apart HI486.out HO_7z.out (by decide))).1 k_ e_.symm).1.2) hs_) (fun hn_ => (Kd.fresh' (Kd.R_lt aa_8) k_ hn_)), Or.elim hk_.1 (fun hs_ => fun e_ => ((((IsS72.apart HI486.out HO505.out (by decide))).1 k_ e_.symm).1.1) hs_) (fun hn_ => (Kd.fresh' (Kd.R_lt (by (with_reducible repeat (first | apply Kd.R_alloc | apply Kd.R_drewN | apply Kd.R_drew)); exact HO505.out)) k_ hn_))⟩)); have n7_ := am_ (Kd.R_mono (ok' := fun k_ => some k_ ≠ (v542 : Value).ownBlock ∧ some k_ ≠ (.slice Ao70 t488.length co70 : Value).ownBlock ∧ some k_ ≠ (.slice Ao66 t503.length co66 : Value).ownBlock) ho1 (fun k_ hk_ => ⟨hk_.2, Or.elim hk_.1 (fun hs_ => fun e_ => ((((IsS72.apart HI486.out HO_7z.out (by decide))).1 k_ e_.symm).1.2) hs_) (fun hn_ => (Kd.fresh' (Kd.R_lt aa_8) k_ hn_)), Or.elim hk_.1 (fun hs_ => fun e_ => ((((IsS72.apart HI486.out HO505.out (by decide))).1 k_ e_.symm).1.1) hs_) (fun hn_ => (Kd.fresh' (Kd.R_lt (by (with_reducible repeat (first | apply Kd.R_alloc | apply Kd.R_drewN | apply Kd.R_drew)); exact HO505.out)) k_ hn_))⟩)); have n8_ := am_ (hb); have n9_ := am_ ((show Kd.C (Kd.int .u8) w71 Ao66 y516.length y516 from by rw [Ny516.out]; exact Kd.C_take (m := (t497 : Int).toNat) ((Kd.R_reads' (Kd.R_mono (ok' := fun k_ => some k_ ≠ (.slice Ao70 t488.length co70 : Value).ownBlock ∧ some k_ ≠ (v542 : Value).ownBlock ∧ some k_ ≠ (v546 : Value).ownBlock) (Kd.R_keptB ((IsS72.apart HI486.out HO505.out (by decide))) hkp (fun k_ hk_ hs_ => Or.elim hs_ (fun hs_ => (hk_.1.1) hs_) (fun e_ => (hk_.2) e_))) (fun k_ hk_ => ⟨hk_.1.1.2, fun e_ => Or.elim (ho0.1 k_ e_.symm).1 (fun hs_ => hk_.2.1 (.inl hs_)) (fun hn_ => Nat.not_le.2 hk_.2.2 hn_), fun e_ => Or.elim (ho1.1 k_ e_.symm).1 (fun hs_ => hk_.2.1 (.inl hs_)) (fun hn_ => Nat.not_le.2 hk_.2.2 hn_)⟩))).2.2) KL67.out)); clear HO_7; clear HO_7z; clear BK479; clear HI486; clear HI492; clear HO505; clear HB; clear HR519; clear HO509; have HO_7 := n0_; have HO_7z := n1_; have BK479 := n2_; have HI486 := n3_; have HI492 := n4_; have HO505 := n5_; have HO543 := n6_; have HO547 := n7_; have HB := n8_; have HR519 := n9_; clear n0_ n1_ n2_ n3_ n4_ n5_ n6_ n7_ n8_ n9_; (try clear hb); (try clear hkp); (try clear ho0); (try clear ho1)) | ((with_reducible refine gate_callee (f := 9) rfl ?_); refine goesL_ (some 155) rfl rfl Try.func9 (by kernel_rfl) rfl #[.int .i64 t544] rfl aa_1 ?_; (with_reducible refine (gangwaylaw19_num.calls t544 t549 _ A55.out).mono ?_); rintro e w' ⟨rfl, ⟨nd, rfl⟩⟩; refine ⟨_, rfl, ?_⟩; obtain ⟨Ao72, co72, eo72⟩ := Kd.R_slice HO543.out; subst eo72; obtain ⟨HGz73, hgz73⟩ := HI492.out; have hcz73_0 := cellS57_0 HGz73; have hcz73_1 := cellS57_1 HGz73; have hfz73_0 := blk_frozen HGz73 0; have hfz73_1 := blk_frozen HGz73 1; clear HGz73 hgz73))
 go_loopg [20] kj14 (fun kq v20 w' => ∃ (x20_4 : Int), v20 = .int .i64 x20_4 ∧ Aside0 (gangwaylaw19_IovBack.l2 kq l0 x3_1 x7_14 t541 x20_4 t488 t491 = some r) ∧ Aside0 (kq ≤ kj14) ∧ Aside0 (Kd.R k50 50 w' w.heap.size (fun _ => True) (.slice Ao61 x7_14.length co61) x7_14) ∧ Aside0 (Kd.R (Kd.int .u8) 5 w' w.heap.size (fun k_ => some k_ ≠ (v546 : Value).ownBlock ∧ some k_ ≠ ((.slice Ao70 t488.length co70) : Value).ownBlock) (.slice Ao72 t541.length co72) t541) ∧ Aside0 (Kd.R (Kd.int .u8) 5 w' w.heap.size (fun k_ => some k_ ≠ ((.slice Ao72 t541.length co72) : Value).ownBlock ∧ some k_ ≠ ((.slice Ao70 t488.length co70) : Value).ownBlock) v546 t545) ∧ Aside0 (Kd.R (Kd.int .u8) 5 w' w.heap.size (fun k_ => some k_ ≠ ((.slice Ao72 t541.length co72) : Value).ownBlock ∧ some k_ ≠ (v546 : Value).ownBlock) (.slice Ao70 t488.length co70) t488) ∧ Aside0 (w'.heap[gb479]? = some (.cells #[(.slice A478_0 ((rd_T26 l0 x3_1).f0).length c478_0), .int .i64 ((rd_T26 l0 x3_1).f1), .int .i64 ((rd_T26 l0 x3_1).f2), (.slice A478_3 ((rd_T26 l0 x3_1).f3).length c478_3), (.slice A478_4 ((rd_T26 l0 x3_1).f4).length c478_4)] 26 (0, 0))) ∧ Aside0 (IsS72 w w' g486 v546 t548) ∧ Aside0 (IsS57 w w' g492 (.slice Ao70 t488.length co70) t491) ∧ Aside0 (Below w.heap.size w w'))
 case atStart => exact ⟨(0), aa_2, H', ⟨Nat.le_refl _⟩, ⟨aa_11⟩, ⟨by (with_reducible repeat (first | apply Kd.R_alloc | apply Kd.R_drewN | apply Kd.R_drew)); exact Kd.R_mono HO543.out (fun _ hk => ⟨hk.1, hk.2.1⟩)⟩, ⟨by (with_reducible repeat (first | apply Kd.R_alloc | apply Kd.R_drewN | apply Kd.R_drew)); exact Kd.R_mono HO547.out (fun _ hk => ⟨hk.1, hk.2.1⟩)⟩, ⟨by (with_reducible repeat (first | apply Kd.R_alloc | apply Kd.R_drewN | apply Kd.R_drew)); exact Kd.R_mono HO_7z.out (fun _ hk => ⟨hk.2.1, hk.2.2⟩)⟩, ⟨aa_6⟩, ⟨aa_9⟩, ⟨aa_5⟩, ⟨aa_4⟩⟩
 case round =>
 as_aux_lemma =>
 clear H'
 try clear c1
 try clear c2
 try clear p2
 try clear c3
 try clear c4
 try clear p4
 try clear q4
 try clear hx4
 try clear c5
 try clear q6
 try clear c9
 try clear c12
 try clear c13
 try clear c15
 try clear c19
 try clear c21
 try clear c39
 try clear c39b0
 try clear c39b1
 try clear c41
 try clear c41b0
 try clear c41b1
 try clear c43
 try clear c43b0
 try clear c43b1
 try clear c44
 try clear c44b0
 try clear c44b1
 try clear c45
 try clear c45b0
 try clear c45b1
 try clear c47
 try clear c47b0
 try clear c47b1
 try clear p47
 try clear q47
 try clear hx47
 try clear c48
 try clear c48b0
 try clear c48b1
 try clear c49
 try clear c49b0
 try clear c49b1
 try clear p49
 try clear q49
 try clear hx49
 try clear c50
 try clear c50b0
 try clear c51
 try clear c51b0
 try clear c51b1
 try clear c53
 try clear c56
 try clear c56b0
 try clear c56b1
 try clear c57
 try clear c57b0
 try clear c57b1
 try clear c57b2
 try clear c58
 try clear c59
 try clear q67
 try clear hcz60_0
 try clear hcz60_1
 try clear hcz60_2
 try clear hcz60_3
 try clear hcz60_4
 try clear hcz69_0
 try clear hcz69_1
 try clear hcz73_0
 try clear hcz73_1
 try clear hfz34_2
 try clear hfz34_3
 try clear hfz34_4
 try clear hfz60_0
 try clear hfz60_1
 try clear hfz60_2
 try clear hfz60_3
 try clear hfz60_4
 try clear hfz69_0
 try clear hfz69_1
 try clear hfz73_0
 try clear hfz73_1
 try clear hx478_0
 try clear hx478_1
 try clear hx478_2
 try clear hx478_3
 try clear hx478_4
 try clear hx493_0
 try clear hx493_1
 try clear p2
 try clear p4
 try clear p478
 try clear p493
 try clear q4
 try clear q478
 try clear q493
 try clear q67
 obtain ⟨x20_4, rfl, HA, HK4, HO_7, HO_18, HO_5z, HO_7z, BK479, HI486, HI492, HB⟩ := hrel
 cases gk with
 | zero => exact absurd HA.out (by simp [gangwaylaw19_IovBack.l2])
 | succ k4 =>
 have H := HA.out
 clear HA
 simp only [gangwaylaw19_IovBack.l2] at H
 by_cases c74 : x20_4 < (t541.length : Int)
 rotate_left
 ·rw [if_neg c74] at H
  have c74b0 : decide (x20_4 < (t541.length : Int)) = false := decide_eq_false c74
  clear c74
  have H' := am_ H
  clear H
  go_wp2
  go_roundg k4
  case measure => have := HK1.out; have := HJ1.out; have := HJ14.out; have := HK4.out; omega
  case rel => exact ⟨(wrap64 (x3_1 + 1)), aa_2, H', ⟨by have := HK1.out; have := HJ1.out; have := HJ14.out; have := HK4.out; omega⟩, ⟨aa_4⟩⟩
 as_aux_lemma =>
 rw [if_pos c74] at H
 have c74b0 : decide (x20_4 < (t541.length : Int)) = true := decide_eq_true c74
 clear c74
 have H' := am_ H
 clear H
 go_wp2
 go_loopg [21, 22] k4 (fun kq v21 v22 w' => ∃ (x21_5 : Bool) (x22_5 : Int), v21 = .bool x21_5 ∧ v22 = .int .i64 x22_5 ∧ Aside0 (gangwaylaw19_IovBack.l3 kq l0 x3_1 x7_14 t541 x20_4 x21_5 x22_5 t488 t491 = some r) ∧ Aside0 (kq ≤ k4) ∧ Aside0 (Kd.R k50 50 w' w.heap.size (fun _ => True) (.slice Ao61 x7_14.length co61) x7_14) ∧ Aside0 (Kd.R (Kd.int .u8) 5 w' w.heap.size (fun k_ => some k_ ≠ (v546 : Value).ownBlock ∧ some k_ ≠ ((.slice Ao70 t488.length co70) : Value).ownBlock) (.slice Ao72 t541.length co72) t541) ∧ Aside0 (Kd.R (Kd.int .u8) 5 w' w.heap.size (fun k_ => some k_ ≠ ((.slice Ao72 t541.length co72) : Value).ownBlock ∧ some k_ ≠ ((.slice Ao70 t488.length co70) : Value).ownBlock) v546 t545) ∧ Aside0 (Kd.R (Kd.int .u8) 5 w' w.heap.size (fun k_ => some k_ ≠ ((.slice Ao72 t541.length co72) : Value).ownBlock ∧ some k_ ≠ (v546 : Value).ownBlock) (.slice Ao70 t488.length co70) t488) ∧ Aside0 (w'.heap[gb479]? = some (.cells #[(.slice A478_0 ((rd_T26 l0 x3_1).f0).length c478_0), .int .i64 ((rd_T26 l0 x3_1).f1), .int .i64 ((rd_T26 l0 x3_1).f2), (.slice A478_3 ((rd_T26 l0 x3_1).f3).length c478_3), (.slice A478_4 ((rd_T26 l0 x3_1).f4).length c478_4)] 26 (0, 0))) ∧ Aside0 (IsS72 w w' g486 v546 t548) ∧ Aside0 (IsS57 w w' g492 (.slice Ao70 t488.length co70) t491) ∧ Aside0 (Below w.heap.size w w'))
 case atStart => exact ⟨(false), (0), aa_2, aa_2, H', ⟨Nat.le_refl _⟩, ⟨aa_11⟩, ⟨aa_12⟩, ⟨aa_10⟩, ⟨aa_8⟩, ⟨aa_6⟩, ⟨aa_9⟩, ⟨aa_5⟩, ⟨aa_4⟩⟩
 case round =>
 as_aux_lemma =>
 clear H'
 try clear c1
 try clear c2
 try clear p2
 try clear c3
 try clear c4
 try clear p4
 try clear q4
 try clear hx4
 try clear c5
 try clear q6
 try clear c7
 try clear c9
 try clear c12
 try clear c13
 try clear c15
 try clear c19
 try clear c21
 try clear c39
 try clear c39b0
 try clear c39b1
 try clear c41
 try clear c41b0
 try clear c41b1
 try clear c43
 try clear c43b0
 try clear c43b1
 try clear c44
 try clear c44b0
 try clear c44b1
 try clear c45
 try clear c45b0
 try clear c45b1
 try clear c47
 try clear c47b0
 try clear c47b1
 try clear p47
 try clear q47
 try clear hx47
 try clear c48
 try clear c48b0
 try clear c48b1
 try clear c49
 try clear c49b0
 try clear c49b1
 try clear p49
 try clear q49
 try clear hx49
 try clear c50
 try clear c50b0
 try clear c51
 try clear c51b0
 try clear c51b1
 try clear c53
 try clear c56
 try clear c56b0
 try clear c56b1
 try clear c57
 try clear c57b0
 try clear c57b1
 try clear c57b2
 try clear c58
 try clear c59
 try clear q67
 try clear c74
 try clear c74b0
 try clear hcz60_0
 try clear hcz60_1
 try clear hcz60_2
 try clear hcz60_3
 try clear hcz60_4
 try clear hcz69_0
 try clear hcz69_1
 try clear hcz73_0
 try clear hcz73_1
 try clear hfz34_2
 try clear hfz34_3
 try clear hfz34_4
 try clear hfz60_0
 try clear hfz60_1
 try clear hfz60_2
 try clear hfz60_3
 try clear hfz60_4
 try clear hfz69_0
 try clear hfz69_1
 try clear hfz73_0
 try clear hfz73_1
 try clear hx478_0
 try clear hx478_1
 try clear hx478_2
 try clear hx478_3
 try clear hx478_4
 try clear hx493_0
 try clear hx493_1
 try clear p2
 try clear p4
 try clear p47
 try clear p478
 try clear p49
 try clear p493
 try clear q4
 try clear q47
 try clear q478
 try clear q49
 try clear q493
 try clear q6
 try clear q67
 obtain ⟨x21_5, x22_5, rfl, rfl, HA, HK5, HO_7, HO_18, HO_5z, HO_7z, BK479, HI486, HI492, HB⟩ := hrel
 cases gk with
 | zero => exact absurd HA.out (by simp [gangwaylaw19_IovBack.l3])
 | succ k5 =>
 have H := HA.out
 clear HA
 simp only [gangwaylaw19_IovBack.l3] at H
 by_cases c75 : x22_5 < (x7_14.length : Int)
 rotate_left
 ·as_aux_lemma =>
  rw [if_neg c75] at H
  have c75b0 : decide (x22_5 < (x7_14.length : Int)) = false := decide_eq_false c75
  clear c75
  have HC82 := am_ H
  clear H
  go_upto_region 36 with (fail)
  go_cut [219] (fun v219 wc => ∃ (kq : Nat) (x219_81 : Bool), v219 = .bool x219_81 ∧ Aside0 (j6 kq l0 x3_1 x7_14 t541 x20_4 x219_81 t488 t491 = some r) ∧ Aside0 (kq ≤ k5) ∧ Aside0 (Kd.R k50 50 wc w.heap.size (fun _ => True) (.slice Ao61 x7_14.length co61) x7_14) ∧ Aside0 (Kd.R (Kd.int .u8) 5 wc w.heap.size (fun k_ => some k_ ≠ (v546 : Value).ownBlock ∧ some k_ ≠ ((.slice Ao70 t488.length co70) : Value).ownBlock) (.slice Ao72 t541.length co72) t541) ∧ Aside0 (Kd.R (Kd.int .u8) 5 wc w.heap.size (fun k_ => some k_ ≠ ((.slice Ao72 t541.length co72) : Value).ownBlock ∧ some k_ ≠ ((.slice Ao70 t488.length co70) : Value).ownBlock) v546 t545) ∧ Aside0 (Kd.R (Kd.int .u8) 5 wc w.heap.size (fun k_ => some k_ ≠ ((.slice Ao72 t541.length co72) : Value).ownBlock ∧ some k_ ≠ (v546 : Value).ownBlock) (.slice Ao70 t488.length co70) t488) ∧ Aside0 (wc.heap[gb479]? = some (.cells #[(.slice A478_0 ((rd_T26 l0 x3_1).f0).length c478_0), .int .i64 ((rd_T26 l0 x3_1).f1), .int .i64 ((rd_T26 l0 x3_1).f2), (.slice A478_3 ((rd_T26 l0 x3_1).f3).length c478_3), (.slice A478_4 ((rd_T26 l0 x3_1).f4).length c478_4)] 26 (0, 0))) ∧ Aside0 (IsS72 w wc g486 v546 t548) ∧ Aside0 (IsS57 w wc g492 (.slice Ao70 t488.length co70) t491) ∧ Aside0 (Below w.heap.size w wc))
  case first =>
   as_aux_lemma =>
   have H := HC82.out
   clear HC82
   by_cases c83 : x21_5 = true
   ·as_aux_lemma =>
    subst c83
    have H1 : (j6 k5 l0 x3_1 x7_14 t541 x20_4 false t488 t491) = some r := by rw [if_pos rfl] at H; exact H
    clear H
    have H := H1
    clear H1
    have H' := am_ H
    clear H
    try go_wp2
    have n0_ := am_ (Kd.R_drew HO_7.out)
    have n1_ := am_ (Kd.R_drew HO_18.out)
    have n2_ := am_ (Kd.R_drew HO_5z.out)
    have n3_ := am_ (Kd.R_drew HO_7z.out)
    have n4_ := am_ (blk_drew BK479.out)
    have n5_ := am_ (IsS72.drew HI486.out)
    have n6_ := am_ (IsS57.drew HI492.out)
    have n7_ := am_ (below_drew1 HB.out)
    clear HO_7
    clear HO_18
    clear HO_5z
    clear HO_7z
    clear BK479
    clear HI486
    clear HI492
    clear HB
    have HO_7 := n0_
    have HO_18 := n1_
    have HO_5z := n2_
    have HO_7z := n3_
    have BK479 := n4_
    have HI486 := n5_
    have HI492 := n6_
    have HB := n7_
    clear n0_ n1_ n2_ n3_ n4_ n5_ n6_ n7_
    refine start_ (n := 16) (S := fun w' => True) (ds := []) bb21_ (by kernel_rfl) rfl rfl trivial (fun hHeld => ?_); refine with_tabW gangwaylaw19_IovBack.tab36 gangwaylaw19_IovBack.bits36 (fun HT_ HW_ => ?_)
    generalize wr.drew = w84 at HO_7 HO_18 HO_5z HO_7z BK479 HI486 HI492 HB hHeld ⊢
    refine pure_ (i := 0) (N := some 204) (v := ?_) (a' := ?_) bb20_ rfl rfl (any_of HT_.out (by kernel_rfl)) (fun _ _ _ h => h) (Or.inl ⟨by rfl, ?_⟩) ?_ ?_
    rotate_left; · intro w'; go_simp; with_reducible rfl
    rotate_left; · simp only [Act.put, e1, e2, e3, i64_w, i32_w]; rfl
    refine pure_ (i := 1) (N := some 205) (v := ?_) (a' := ?_) bb19_ rfl rfl (any_of HT_.out (by kernel_rfl)) (fun _ _ _ h => h) (Or.inl ⟨by rfl, ?_⟩) ?_ ?_
    rotate_left; · intro w'; go_simp; with_reducible rfl
    rotate_left; · simp only [Act.put, e1, e2, e3, i64_w, i32_w]; rfl
    refine pure_ (i := 2) (N := some 206) (v := ?_) (a' := ?_) bb18_ rfl rfl (any_of HT_.out (by kernel_rfl)) (fun _ _ _ h => h) (Or.inl ⟨by rfl, ?_⟩) ?_ ?_
    rotate_left; · intro w'; go_simp; with_reducible rfl
    rotate_left; · simp only [Act.put, e1, e2, e3, i64_w, i32_w]; rfl
    refine pure_ (i := 3) (N := some 207) (v := undef) (a' := ?_) bb17_ rfl rfl (any_of HT_.out (by kernel_rfl)) (fun _ _ _ h => h) (Or.inr ⟨by rfl, rfl⟩) ?_ ?_
    rotate_left; · simp only [Act.put, e1, e2, e3, i64_w, i32_w]; rfl
    refine pure_ (i := 4) (N := some 208) (v := undef) (a' := ?_) bb16_ rfl rfl (any_of HT_.out (by kernel_rfl)) (fun _ _ _ h => h) (Or.inr ⟨by rfl, rfl⟩) ?_ ?_
    rotate_left; · simp only [Act.put, e1, e2, e3, i64_w, i32_w]; rfl
    refine pure_ (i := 5) (N := some 209) (v := undef) (a' := ?_) bb15_ rfl rfl (any_of HT_.out (by kernel_rfl)) (fun _ _ _ h => h) (Or.inr ⟨by rfl, rfl⟩) ?_ ?_
    rotate_left; · simp only [Act.put, e1, e2, e3, i64_w, i32_w]; rfl
    refine pure_ (i := 6) (N := some 210) (v := undef) (a' := ?_) bb14_ rfl rfl (any_of HT_.out (by kernel_rfl)) (fun _ _ _ h => h) (Or.inr ⟨by rfl, rfl⟩) ?_ ?_
    rotate_left; · simp only [Act.put, e1, e2, e3, i64_w, i32_w]; rfl
    refine pure_ (i := 7) (N := some 211) (v := undef) (a' := ?_) bb12_ rfl rfl (any_of HT_.out (by kernel_rfl)) (fun _ _ _ h => h) (Or.inr ⟨by rfl, rfl⟩) ?_ ?_
    rotate_left; · simp only [Act.put, e1, e2, e3, i64_w, i32_w]; rfl
    refine pure_ (i := 8) (N := some 212) (v := undef) (a' := ?_) bb10_ rfl rfl (any_of HT_.out (by kernel_rfl)) (fun _ _ _ h => h) (Or.inr ⟨by rfl, rfl⟩) ?_ ?_
    rotate_left; · simp only [Act.put, e1, e2, e3, i64_w, i32_w]; rfl
    refine pure_ (i := 9) (N := some 213) (v := undef) (a' := ?_) bb8_ rfl rfl (any_of HT_.out (by kernel_rfl)) (fun _ _ _ h => h) (Or.inr ⟨by rfl, rfl⟩) ?_ ?_
    rotate_left; · simp only [Act.put, e1, e2, e3, i64_w, i32_w]; rfl
    refine pure_ (i := 10) (N := some 214) (v := undef) (a' := ?_) bb6_ rfl rfl (any_of HT_.out (by kernel_rfl)) (fun _ _ _ h => h) (Or.inr ⟨by rfl, rfl⟩) ?_ ?_
    rotate_left; · simp only [Act.put, e1, e2, e3, i64_w, i32_w]; rfl
    refine pure_ (i := 11) (N := some 215) (v := undef) (a' := ?_) bb4_ rfl rfl (any_of HT_.out (by kernel_rfl)) (fun _ _ _ h => h) (Or.inr ⟨by rfl, rfl⟩) ?_ ?_
    rotate_left; · simp only [Act.put, e1, e2, e3, i64_w, i32_w]; rfl
    refine pure_ (i := 12) (N := some 216) (v := undef) (a' := ?_) bb3_ rfl rfl (any_of HT_.out (by kernel_rfl)) (fun _ _ _ h => h) (Or.inr ⟨by rfl, rfl⟩) ?_ ?_
    rotate_left; · simp only [Act.put, e1, e2, e3, i64_w, i32_w]; rfl
    refine pure_ (i := 13) (N := some 217) (v := undef) (a' := ?_) bb2_ rfl rfl (any_of HT_.out (by kernel_rfl)) (fun _ _ _ h => h) (Or.inr ⟨by rfl, rfl⟩) ?_ ?_
    rotate_left; · simp only [Act.put, e1, e2, e3, i64_w, i32_w]; rfl
    refine pure_ (i := 14) (N := some 218) (v := undef) (a' := ?_) bb1_ rfl rfl (any_of HT_.out (by kernel_rfl)) (fun _ _ _ h => h) (Or.inr ⟨by rfl, rfl⟩) ?_ ?_
    rotate_left; · simp only [Act.put, e1, e2, e3, i64_w, i32_w]; rfl
    refine pure_ (i := 15) (N := some 219) (v := ?_) (a' := ?_) bb0_ rfl rfl (any_of HT_.out (by kernel_rfl)) (fun _ _ _ h => h) (Or.inl ⟨by rfl, ?_⟩) ?_ ?_
    rotate_left; · intro w'; go_simp; with_reducible rfl
    rotate_left; · simp only [Act.put, e1, e2, e3, i64_w, i32_w]; rfl
    refine done_ (done_of HT_.out (by kernel_rfl)) ?_
    try go_wp2
    go_meet
    case rel => exact ⟨_, (false), aa_2, H', ⟨by have := HK1.out; have := HJ1.out; have := HJ14.out; have := HK4.out; have := HK5.out; first | omega | exact Nat.le_refl _⟩, ⟨aa_11⟩, ⟨aa_12⟩, ⟨aa_10⟩, ⟨aa_8⟩, ⟨aa_6⟩, ⟨aa_9⟩, ⟨aa_5⟩, ⟨aa_4⟩⟩
   as_aux_lemma =>
   replace c83 := Bool.eq_false_iff.mpr c83
   subst c83
   have H1 : (if 0 ≤ x20_4 then (if x20_4 < (t541.length : Int) then (if x20_4 < (t488.length : Int) then (j6 k5 l0 x3_1 x7_14 t541 x20_4 ((rd t541 x20_4) != (rd t488 x20_4)) t488 t491) else (none)) else (none)) else (none)) = some r := by rw [if_neg (show ¬ (false = true) by decide)] at H; exact H
   clear H
   have H := H1
   clear H1
   by_cases c85 : 0 ≤ x20_4
   rotate_left
   ·rw [if_neg c85] at H
    exact absurd H (by simp)
   as_aux_lemma =>
   rw [if_pos c85] at H
   have c85b0 : decide (0 ≤ x20_4) = true := decide_eq_true c85
   clear c85
   (first | rw [c85b0] | (simp only [i64_w, i32_w]; rw [c85b0]) | skip)
   by_cases c86 : x20_4 < (t541.length : Int)
   rotate_left
   ·rw [if_neg c86] at H
    exact absurd H (by simp)
   as_aux_lemma =>
   rw [if_pos c86] at H
   have c86b0 : decide (x20_4 < (t541.length : Int)) = true := decide_eq_true c86
   clear c86
   by_cases c87 : x20_4 < (t488.length : Int)
   rotate_left
   ·rw [if_neg c87] at H
    exact absurd H (by simp)
   as_aux_lemma =>
   rw [if_pos c87] at H
   have c87b0 : decide (x20_4 < (t488.length : Int)) = true := decide_eq_true c87
   clear c87
   have H' := am_ H
   clear H
   try go_wp2
   have n0_ := am_ (Kd.R_drew HO_7.out)
   have n1_ := am_ (Kd.R_drew HO_18.out)
   have n2_ := am_ (Kd.R_drew HO_5z.out)
   have n3_ := am_ (Kd.R_drew HO_7z.out)
   have n4_ := am_ (blk_drew BK479.out)
   have n5_ := am_ (IsS72.drew HI486.out)
   have n6_ := am_ (IsS57.drew HI492.out)
   have n7_ := am_ (below_drew1 HB.out)
   clear HO_7
   clear HO_18
   clear HO_5z
   clear HO_7z
   clear BK479
   clear HI486
   clear HI492
   clear HB
   have HO_7 := n0_
   have HO_18 := n1_
   have HO_5z := n2_
   have HO_7z := n3_
   have BK479 := n4_
   have HI486 := n5_
   have HI492 := n6_
   have HB := n7_
   clear n0_ n1_ n2_ n3_ n4_ n5_ n6_ n7_
   have p558 : 0 ≤ (x20_4 : Int) := of_decide_eq_true aa_3
   have q558 : x20_4 < (t541.length : Int) := of_decide_eq_true aa_3
   obtain ⟨ad558, e558, hx558_0⟩ := Kd.at_int (Kd.R_reads' HO_18.out).2.2 x20_4 p558 q558
   cases e558
   replace p558 := eq_true p558
   replace q558 := eq_true q558
   have p559 : 0 ≤ (x20_4 : Int) := of_decide_eq_true aa_3
   have q559 : x20_4 < (t488.length : Int) := of_decide_eq_true aa_3
   obtain ⟨ad559, e559, hx559_0⟩ := Kd.at_int (Kd.R_reads' HO_7z.out).2.2 x20_4 p559 q559
   cases e559
   replace p559 := eq_true p559
   replace q559 := eq_true q559
   refine start_ (n := 16) (S := fun w' => w'.cell? ⟨g492, 0, none⟩ = some (.slice (some ad559) t488.length co70) ∧ w'.cell? ⟨g492, 1, none⟩ = some (.int .i64 t491) ∧ w'.cell? (ad558.add (x20_4).toNat) = some (.int .u8 (rd t541 x20_4)) ∧ w'.cell? (ad559.add (x20_4).toNat) = some (.int .u8 (rd t488 x20_4))) (ds := []) bb21_ (by kernel_rfl) rfl rfl ⟨(blk_cell HI492.out.1 0).trans rfl, (blk_cell HI492.out.1 1).trans rfl, hx558_0, hx559_0⟩ (fun hHeld => ?_); refine with_tabW gangwaylaw19_IovBack.tab36 gangwaylaw19_IovBack.bits36 (fun HT_ HW_ => ?_)
   generalize wr.drew = w88 at HO_7 HO_18 HO_5z HO_7z BK479 HI486 HI492 HB hx558_0 hx559_0 hHeld ⊢
   refine pure_ (i := 0) (N := some 204) (v := ?_) (a' := ?_) bb20_ rfl rfl (any_of HT_.out (by kernel_rfl)) (fun _ _ _ h => h) (Or.inl ⟨by rfl, ?_⟩) ?_ ?_
   rotate_left; · intro w'; go_simp; with_reducible rfl
   rotate_left; · simp only [Act.put, e1, e2, e3, i64_w, i32_w]; rfl
   refine pure_ (i := 1) (N := some 205) (v := ?_) (a' := ?_) bb19_ rfl rfl (any_of HT_.out (by kernel_rfl)) (fun _ _ _ h => h) (Or.inl ⟨by rfl, ?_⟩) ?_ ?_
   rotate_left; · intro w'; go_simp; with_reducible rfl
   rotate_left; · simp only [Act.put, e1, e2, e3, i64_w, i32_w]; rfl
   refine pure_ (i := 2) (N := some 206) (v := ?_) (a' := ?_) bb18_ rfl rfl (any_of HT_.out (by kernel_rfl)) (fun _ _ _ h => h) (Or.inl ⟨by rfl, ?_⟩) ?_ ?_
   rotate_left; · intro w'; go_simp; with_reducible rfl
   rotate_left; · simp only [Act.put, e1, e2, e3, i64_w, i32_w]; rfl
   refine pure_ (i := 3) (N := some 207) (v := ?_) (a' := ?_) bb17_ rfl rfl (any_of HT_.out (by kernel_rfl)) (fun _ _ _ h => h) (Or.inl ⟨by rfl, ?_⟩) ?_ ?_
   rotate_left; · intro w'; go_simp; with_reducible rfl
   rotate_left; · simp only [Act.put, e1, e2, e3, i64_w, i32_w]; rfl
   refine pure_ (i := 4) (N := some 208) (v := ?_) (a' := ?_) bb16_ rfl rfl (any_of HT_.out (by kernel_rfl)) (fun _ _ _ h => h) (Or.inl ⟨by rfl, ?_⟩) ?_ ?_
   rotate_left; · intro w'; go_simp; with_reducible rfl
   rotate_left; · simp only [Act.put, e1, e2, e3, i64_w, i32_w]; rfl
   refine pure_ (i := 5) (N := some 209) (v := ?_) (a' := ?_) bb15_ rfl rfl (any_of HT_.out (by kernel_rfl)) (fun _ _ _ h => h) (Or.inl ⟨by rfl, ?_⟩) ?_ ?_
   rotate_left; · intro w'; go_simp; with_reducible rfl
   rotate_left; · simp only [Act.put, e1, e2, e3, i64_w, i32_w]; rfl
   refine pure_ (i := 7) (N := some 211) (v := ?_) (a' := ?_) bb13_ rfl rfl (any_of HT_.out (by kernel_rfl)) (fun _ _ _ h => h) (Or.inl ⟨by rfl, ?_⟩) ?_ ?_
   rotate_left; · intro w'; go_simp; with_reducible rfl
   rotate_left; · simp only [Act.put, e1, e2, e3, i64_w, i32_w]; rfl
   refine pure_ (i := 8) (N := some 212) (v := ?_) (a' := ?_) bb11_ rfl rfl (any_of HT_.out (by kernel_rfl)) (fun _ _ _ h => h) (Or.inl ⟨by rfl, ?_⟩) ?_ ?_
   rotate_left; · intro w'; go_simp; with_reducible rfl
   rotate_left; · simp only [Act.put, e1, e2, e3, i64_w, i32_w]; rfl
   refine pure_ (i := 9) (N := some 213) (v := ?_) (a' := ?_) bb9_ rfl rfl (any_of HT_.out (by kernel_rfl)) (fun _ _ _ h => h) (Or.inl ⟨by rfl, ?_⟩) ?_ ?_
   rotate_left; · intro w'; go_simp; with_reducible rfl
   rotate_left; · simp only [Act.put, e1, e2, e3, i64_w, i32_w]; rfl
   refine pure_ (i := 11) (N := some 215) (v := ?_) (a' := ?_) bb7_ rfl rfl (any_of HT_.out (by kernel_rfl)) (fun _ _ _ h => h) (Or.inl ⟨by rfl, ?_⟩) ?_ ?_
   rotate_left; · intro w'; go_simp; with_reducible rfl
   rotate_left; · simp only [Act.put, e1, e2, e3, i64_w, i32_w]; rfl
   refine take_ (i := 6) (N := some 210) (v := ?_) (a' := ?_) bb5_ rfl rfl (take_ofW HT_.out HW_.out (by kernel_rfl)) (fun _ _ _ h => h) (Or.inl ⟨by rfl, ?_⟩) hHeld ?_ ?_
   rotate_left; · rintro w' ⟨s0, s1, s2, s3⟩; go_simp; with_reducible rfl
   rotate_left; · simp only [Act.put, e1, e2, e3, i64_w, i32_w]; rfl
   refine take_ (i := 10) (N := some 214) (v := ?_) (a' := ?_) bb4_ rfl rfl (take_ofW HT_.out HW_.out (by kernel_rfl)) (fun _ _ _ h => h) (Or.inl ⟨by rfl, ?_⟩) hHeld ?_ ?_
   rotate_left; · rintro w' ⟨s0, s1, s2, s3⟩; go_simp; with_reducible rfl
   rotate_left; · simp only [Act.put, e1, e2, e3, i64_w, i32_w]; rfl
   refine pure_ (i := 12) (N := some 216) (v := ?_) (a' := ?_) bb3_ rfl rfl (any_of HT_.out (by kernel_rfl)) (fun _ _ _ h => h) (Or.inl ⟨by rfl, ?_⟩) ?_ ?_
   rotate_left; · intro w'; go_simp; with_reducible rfl
   rotate_left; · simp only [Act.put, e1, e2, e3, i64_w, i32_w]; rfl
   refine take_ (i := 13) (N := some 217) (v := ?_) (a' := ?_) bb2_ rfl rfl (take_ofW HT_.out HW_.out (by kernel_rfl)) (fun _ _ _ h => h) (Or.inl ⟨by rfl, ?_⟩) hHeld ?_ ?_
   rotate_left; · rintro w' ⟨s0, s1, s2, s3⟩; go_simp; with_reducible rfl
   rotate_left; · simp only [Act.put, e1, e2, e3, i64_w, i32_w]; rfl
   refine pure_ (i := 14) (N := some 218) (v := ?_) (a' := ?_) bb1_ rfl rfl (any_of HT_.out (by kernel_rfl)) (fun _ _ _ h => h) (Or.inl ⟨by rfl, ?_⟩) ?_ ?_
   rotate_left; · intro w'; go_simp; with_reducible rfl
   rotate_left; · simp only [Act.put, e1, e2, e3, i64_w, i32_w]; rfl
   refine pure_ (i := 15) (N := some 219) (v := ?_) (a' := ?_) bb0_ rfl rfl (any_of HT_.out (by kernel_rfl)) (fun _ _ _ h => h) (Or.inl ⟨by rfl, ?_⟩) ?_ ?_
   rotate_left; · intro w'; go_simp; with_reducible rfl
   rotate_left; · simp only [Act.put, e1, e2, e3, i64_w, i32_w]; rfl
   refine done_ (done_of HT_.out (by kernel_rfl)) ?_
   try go_wp2
   go_meet
   case rel => exact ⟨_, (((rd t541 x20_4) != (rd t488 x20_4))), aa_2, H', ⟨by have := HK1.out; have := HJ1.out; have := HJ14.out; have := HK4.out; have := HK5.out; first | omega | exact Nat.le_refl _⟩, ⟨aa_11⟩, ⟨aa_12⟩, ⟨aa_10⟩, ⟨aa_8⟩, ⟨aa_6⟩, ⟨aa_9⟩, ⟨aa_5⟩, ⟨aa_4⟩⟩
  case rest =>
  as_aux_lemma =>
  clear HC82
  try clear p2
  try clear c4
  try clear p5
  try clear q5
  try clear hx5
  try clear p6
  try clear c7
  try clear c8
  try clear c47
  try clear p55
  try clear q55
  try clear hx55
  try clear p64
  try clear c75
  try clear c75b0
  try clear c78
  try clear c79
  try clear c79b0
  try clear c83
  try clear c85
  try clear c85b0
  try clear c86
  try clear c86b0
  try clear c87
  try clear c87b0
  try clear hx555_0
  try clear hx555_1
  try clear hx558_0
  try clear hx559_0
  try clear p555
  try clear p558
  try clear p559
  try clear q555
  try clear q558
  try clear q559
  obtain ⟨kq, x219_81, rfl, HA, HJ81, HO_7, HO_18, HO_5z, HO_7z, BK479, HI486, HI492, HB⟩ := hcut
  cases kq with
  | zero => exact absurd HA.out (by simp [j6])
  | succ kj81 =>
  have H := HA.out
  clear HA
  simp only [j6] at H
  by_cases c89 : x219_81 = true
  ·subst c89
   have H1 : (none) = some r := by rw [if_pos rfl] at H; exact H
   clear H
   have H := H1
   clear H1
   exact absurd H (by simp)
  replace c89 := Bool.eq_false_iff.mpr c89
  subst c89
  have H1 : (if x20_4 > 1000 then (if x20_4 < (wrap64 ((t541.length : Int) - 5)) then (gangwaylaw19_IovBack.l2 kj81 l0 x3_1 x7_14 t541 (wrap64 ((wrap64 ((t541.length : Int) - 5)) + 1)) t488 t491) else (gangwaylaw19_IovBack.l2 kj81 l0 x3_1 x7_14 t541 (wrap64 (x20_4 + 1)) t488 t491)) else (gangwaylaw19_IovBack.l2 kj81 l0 x3_1 x7_14 t541 (wrap64 (x20_4 + 1)) t488 t491)) = some r := by rw [if_neg (show ¬ (false = true) by decide)] at H; exact H
  clear H
  have H := H1
  clear H1
  by_cases c90 : x20_4 > 1000
  rotate_left
  ·rw [if_neg c90] at H
   have c90b0 : decide (1000 < x20_4) = false := decide_eq_false c90
   clear c90
   have H' := am_ H
   clear H
   go_wp2
   go_roundg kj81
   case measure => have := HK1.out; have := HJ1.out; have := HJ14.out; have := HK4.out; have := HK5.out; have := HJ81.out; omega
   case rel => exact ⟨(wrap64 (x20_4 + 1)), aa_2, H', ⟨by have := HK1.out; have := HJ1.out; have := HJ14.out; have := HK4.out; have := HK5.out; have := HJ81.out; omega⟩, ⟨aa_11⟩, ⟨aa_12⟩, ⟨aa_10⟩, ⟨aa_8⟩, ⟨aa_6⟩, ⟨aa_9⟩, ⟨aa_5⟩, ⟨aa_4⟩⟩
  rw [if_pos c90] at H
  have c90b0 : decide (1000 < x20_4) = true := decide_eq_true c90
  clear c90
  by_cases c91 : x20_4 < (wrap64 ((t541.length : Int) - 5))
  ·rw [if_pos c91] at H
   have c91b0 : decide (x20_4 < (wrap64 ((t541.length : Int) - 5))) = true := decide_eq_true c91
   clear c91
   have H' := am_ H
   clear H
   go_wp2
   go_roundg kj81
   case measure => have := HK1.out; have := HJ1.out; have := HJ14.out; have := HK4.out; have := HK5.out; have := HJ81.out; omega
   case rel => exact ⟨(wrap64 ((wrap64 ((t541.length : Int) - 5)) + 1)), aa_2, H', ⟨by have := HK1.out; have := HJ1.out; have := HJ14.out; have := HK4.out; have := HK5.out; have := HJ81.out; omega⟩, ⟨aa_11⟩, ⟨aa_12⟩, ⟨aa_10⟩, ⟨aa_8⟩, ⟨aa_6⟩, ⟨aa_9⟩, ⟨aa_5⟩, ⟨aa_4⟩⟩
  rw [if_neg c91] at H
  have c91b0 : decide (x20_4 < (wrap64 ((t541.length : Int) - 5))) = false := decide_eq_false c91
  clear c91
  have H' := am_ H
  clear H
  go_wp2
  go_roundg kj81
  case measure => have := HK1.out; have := HJ1.out; have := HJ14.out; have := HK4.out; have := HK5.out; have := HJ81.out; omega
  case rel => exact ⟨(wrap64 (x20_4 + 1)), aa_2, H', ⟨by have := HK1.out; have := HJ1.out; have := HJ14.out; have := HK4.out; have := HK5.out; have := HJ81.out; omega⟩, ⟨aa_11⟩, ⟨aa_12⟩, ⟨aa_10⟩, ⟨aa_8⟩, ⟨aa_6⟩, ⟨aa_9⟩, ⟨aa_5⟩, ⟨aa_4⟩⟩
 as_aux_lemma =>
 rw [if_pos c75] at H
 have c75b0 : decide (x22_5 < (x7_14.length : Int)) = true := decide_eq_true c75
 clear c75
 by_cases c76 : x21_5 = true
 ·as_aux_lemma =>
  subst c76
  have H1 : (gangwaylaw19_IovBack.l3 k5 l0 x3_1 x7_14 t541 x20_4 true (wrap64 (x22_5 + 1)) t488 t491) = some r := by rw [if_pos rfl] at H; exact H
  clear H
  have H := H1
  clear H1
  have H' := am_ H
  clear H
  try go_wp2
  have n0_ := am_ (Kd.R_drew HO_7.out)
  have n1_ := am_ (Kd.R_drew HO_18.out)
  have n2_ := am_ (Kd.R_drew HO_5z.out)
  have n3_ := am_ (Kd.R_drew HO_7z.out)
  have n4_ := am_ (blk_drew BK479.out)
  have n5_ := am_ (IsS72.drew HI486.out)
  have n6_ := am_ (IsS57.drew HI492.out)
  have n7_ := am_ (below_drew1 HB.out)
  clear HO_7
  clear HO_18
  clear HO_5z
  clear HO_7z
  clear BK479
  clear HI486
  clear HI492
  clear HB
  have HO_7 := n0_
  have HO_18 := n1_
  have HO_5z := n2_
  have HO_7z := n3_
  have BK479 := n4_
  have HI486 := n5_
  have HI492 := n6_
  have HB := n7_
  clear n0_ n1_ n2_ n3_ n4_ n5_ n6_ n7_
  refine start_ (n := 26) (S := fun w' => True) (ds := []) bb52_ (by kernel_rfl) rfl rfl trivial (fun hHeld => ?_); refine with_tabW gangwaylaw19_IovBack.tab35 gangwaylaw19_IovBack.bits35 (fun HT_ HW_ => ?_)
  generalize wr.drew = w77 at HO_7 HO_18 HO_5z HO_7z BK479 HI486 HI492 HB hHeld ⊢
  refine pure_ (i := 0) (N := some 179) (v := ?_) (a' := ?_) bb51_ rfl rfl (any_of HT_.out (by kernel_rfl)) (fun _ _ _ h => h) (Or.inl ⟨by rfl, ?_⟩) ?_ ?_
  rotate_left; · intro w'; go_simp; with_reducible rfl
  rotate_left; · simp only [Act.put, e1, e2, e3, i64_w, i32_w]; rfl
  refine pure_ (i := 1) (N := some 180) (v := ?_) (a' := ?_) bb50_ rfl rfl (any_of HT_.out (by kernel_rfl)) (fun _ _ _ h => h) (Or.inl ⟨by rfl, ?_⟩) ?_ ?_
  rotate_left; · intro w'; go_simp; with_reducible rfl
  rotate_left; · simp only [Act.put, e1, e2, e3, i64_w, i32_w]; rfl
  refine pure_ (i := 2) (N := some 181) (v := undef) (a' := ?_) bb49_ rfl rfl (any_of HT_.out (by kernel_rfl)) (fun _ _ _ h => h) (Or.inr ⟨by rfl, rfl⟩) ?_ ?_
  rotate_left; · simp only [Act.put, e1, e2, e3, i64_w, i32_w]; rfl
  refine pure_ (i := 3) (N := some 182) (v := undef) (a' := ?_) bb48_ rfl rfl (any_of HT_.out (by kernel_rfl)) (fun _ _ _ h => h) (Or.inr ⟨by rfl, rfl⟩) ?_ ?_
  rotate_left; · simp only [Act.put, e1, e2, e3, i64_w, i32_w]; rfl
  refine pure_ (i := 4) (N := some 183) (v := undef) (a' := ?_) bb47_ rfl rfl (any_of HT_.out (by kernel_rfl)) (fun _ _ _ h => h) (Or.inr ⟨by rfl, rfl⟩) ?_ ?_
  rotate_left; · simp only [Act.put, e1, e2, e3, i64_w, i32_w]; rfl
  refine pure_ (i := 5) (N := some 184) (v := undef) (a' := ?_) bb46_ rfl rfl (any_of HT_.out (by kernel_rfl)) (fun _ _ _ h => h) (Or.inr ⟨by rfl, rfl⟩) ?_ ?_
  rotate_left; · simp only [Act.put, e1, e2, e3, i64_w, i32_w]; rfl
  refine pure_ (i := 6) (N := some 185) (v := undef) (a' := ?_) bb45_ rfl rfl (any_of HT_.out (by kernel_rfl)) (fun _ _ _ h => h) (Or.inr ⟨by rfl, rfl⟩) ?_ ?_
  rotate_left; · simp only [Act.put, e1, e2, e3, i64_w, i32_w]; rfl
  refine pure_ (i := 7) (N := some 186) (v := undef) (a' := ?_) bb44_ rfl rfl (any_of HT_.out (by kernel_rfl)) (fun _ _ _ h => h) (Or.inr ⟨by rfl, rfl⟩) ?_ ?_
  rotate_left; · simp only [Act.put, e1, e2, e3, i64_w, i32_w]; rfl
  refine pure_ (i := 8) (N := some 187) (v := undef) (a' := ?_) bb43_ rfl rfl (any_of HT_.out (by kernel_rfl)) (fun _ _ _ h => h) (Or.inr ⟨by rfl, rfl⟩) ?_ ?_
  rotate_left; · simp only [Act.put, e1, e2, e3, i64_w, i32_w]; rfl
  refine pure_ (i := 9) (N := some 188) (v := undef) (a' := ?_) bb42_ rfl rfl (any_of HT_.out (by kernel_rfl)) (fun _ _ _ h => h) (Or.inr ⟨by rfl, rfl⟩) ?_ ?_
  rotate_left; · simp only [Act.put, e1, e2, e3, i64_w, i32_w]; rfl
  refine pure_ (i := 10) (N := some 189) (v := undef) (a' := ?_) bb41_ rfl rfl (any_of HT_.out (by kernel_rfl)) (fun _ _ _ h => h) (Or.inr ⟨by rfl, rfl⟩) ?_ ?_
  rotate_left; · simp only [Act.put, e1, e2, e3, i64_w, i32_w]; rfl
  refine pure_ (i := 11) (N := some 190) (v := undef) (a' := ?_) bb40_ rfl rfl (any_of HT_.out (by kernel_rfl)) (fun _ _ _ h => h) (Or.inr ⟨by rfl, rfl⟩) ?_ ?_
  rotate_left; · simp only [Act.put, e1, e2, e3, i64_w, i32_w]; rfl
  refine pure_ (i := 12) (N := some 191) (v := undef) (a' := ?_) bb39_ rfl rfl (any_of HT_.out (by kernel_rfl)) (fun _ _ _ h => h) (Or.inr ⟨by rfl, rfl⟩) ?_ ?_
  rotate_left; · simp only [Act.put, e1, e2, e3, i64_w, i32_w]; rfl
  refine pure_ (i := 13) (N := some 192) (v := undef) (a' := ?_) bb38_ rfl rfl (any_of HT_.out (by kernel_rfl)) (fun _ _ _ h => h) (Or.inr ⟨by rfl, rfl⟩) ?_ ?_
  rotate_left; · simp only [Act.put, e1, e2, e3, i64_w, i32_w]; rfl
  refine pure_ (i := 14) (N := some 193) (v := undef) (a' := ?_) bb37_ rfl rfl (any_of HT_.out (by kernel_rfl)) (fun _ _ _ h => h) (Or.inr ⟨by rfl, rfl⟩) ?_ ?_
  rotate_left; · simp only [Act.put, e1, e2, e3, i64_w, i32_w]; rfl
  refine pure_ (i := 15) (N := some 194) (v := undef) (a' := ?_) bb36_ rfl rfl (any_of HT_.out (by kernel_rfl)) (fun _ _ _ h => h) (Or.inr ⟨by rfl, rfl⟩) ?_ ?_
  rotate_left; · simp only [Act.put, e1, e2, e3, i64_w, i32_w]; rfl
  refine pure_ (i := 16) (N := some 195) (v := undef) (a' := ?_) bb34_ rfl rfl (any_of HT_.out (by kernel_rfl)) (fun _ _ _ h => h) (Or.inr ⟨by rfl, rfl⟩) ?_ ?_
  rotate_left; · simp only [Act.put, e1, e2, e3, i64_w, i32_w]; rfl
  refine pure_ (i := 17) (N := some 196) (v := undef) (a' := ?_) bb32_ rfl rfl (any_of HT_.out (by kernel_rfl)) (fun _ _ _ h => h) (Or.inr ⟨by rfl, rfl⟩) ?_ ?_
  rotate_left; · simp only [Act.put, e1, e2, e3, i64_w, i32_w]; rfl
  refine pure_ (i := 18) (N := some 197) (v := undef) (a' := ?_) bb30_ rfl rfl (any_of HT_.out (by kernel_rfl)) (fun _ _ _ h => h) (Or.inr ⟨by rfl, rfl⟩) ?_ ?_
  rotate_left; · simp only [Act.put, e1, e2, e3, i64_w, i32_w]; rfl
  refine pure_ (i := 19) (N := some 198) (v := undef) (a' := ?_) bb28_ rfl rfl (any_of HT_.out (by kernel_rfl)) (fun _ _ _ h => h) (Or.inr ⟨by rfl, rfl⟩) ?_ ?_
  rotate_left; · simp only [Act.put, e1, e2, e3, i64_w, i32_w]; rfl
  refine pure_ (i := 20) (N := some 199) (v := undef) (a' := ?_) bb27_ rfl rfl (any_of HT_.out (by kernel_rfl)) (fun _ _ _ h => h) (Or.inr ⟨by rfl, rfl⟩) ?_ ?_
  rotate_left; · simp only [Act.put, e1, e2, e3, i64_w, i32_w]; rfl
  refine pure_ (i := 21) (N := some 200) (v := undef) (a' := ?_) bb26_ rfl rfl (any_of HT_.out (by kernel_rfl)) (fun _ _ _ h => h) (Or.inr ⟨by rfl, rfl⟩) ?_ ?_
  rotate_left; · simp only [Act.put, e1, e2, e3, i64_w, i32_w]; rfl
  refine pure_ (i := 22) (N := some 201) (v := undef) (a' := ?_) bb25_ rfl rfl (any_of HT_.out (by kernel_rfl)) (fun _ _ _ h => h) (Or.inr ⟨by rfl, rfl⟩) ?_ ?_
  rotate_left; · simp only [Act.put, e1, e2, e3, i64_w, i32_w]; rfl
  refine pure_ (i := 23) (N := some 202) (v := undef) (a' := ?_) bb24_ rfl rfl (any_of HT_.out (by kernel_rfl)) (fun _ _ _ h => h) (Or.inr ⟨by rfl, rfl⟩) ?_ ?_
  rotate_left; · simp only [Act.put, e1, e2, e3, i64_w, i32_w]; rfl
  refine pure_ (i := 24) (N := some 203) (v := ?_) (a' := ?_) bb23_ rfl rfl (any_of HT_.out (by kernel_rfl)) (fun _ _ _ h => h) (Or.inl ⟨by rfl, ?_⟩) ?_ ?_
  rotate_left; · intro w'; go_simp; with_reducible rfl
  rotate_left; · simp only [Act.put, e1, e2, e3, i64_w, i32_w]; rfl
  refine pure_ (i := 25) (N := some 21) (v := ?_) (a' := ?_) bb22_ rfl rfl (any_of HT_.out (by kernel_rfl)) (fun _ _ _ h => h) (Or.inl ⟨by rfl, ?_⟩) ?_ ?_
  rotate_left; · intro w'; go_simp; with_reducible rfl
  rotate_left; · simp only [Act.put, e1, e2, e3, i64_w, i32_w]; rfl
  refine done_ (done_of HT_.out (by kernel_rfl)) ?_
  try go_wp2
  go_roundg k5
  case measure => have := HK1.out; have := HJ1.out; have := HJ14.out; have := HK4.out; have := HK5.out; omega
  case rel => exact ⟨(true), (wrap64 (x22_5 + 1)), aa_2, aa_2, H', ⟨by have := HK1.out; have := HJ1.out; have := HJ14.out; have := HK4.out; have := HK5.out; omega⟩, ⟨aa_11⟩, ⟨aa_12⟩, ⟨aa_10⟩, ⟨aa_8⟩, ⟨aa_6⟩, ⟨aa_9⟩, ⟨aa_5⟩, ⟨aa_4⟩⟩
 as_aux_lemma =>
 replace c76 := Bool.eq_false_iff.mpr c76
 subst c76
 have H1 : (if 0 ≤ x22_5 then (if x20_4 ≥ ((rd_T50 x7_14 x22_5).f0) then (gangwaylaw19_IovBack.l3 k5 l0 x3_1 x7_14 t541 x20_4 (decide (x20_4 < (wrap64 (((rd_T50 x7_14 x22_5).f0) + ((rd_T50 x7_14 x22_5).f1))))) (wrap64 (x22_5 + 1)) t488 t491) else (gangwaylaw19_IovBack.l3 k5 l0 x3_1 x7_14 t541 x20_4 false (wrap64 (x22_5 + 1)) t488 t491)) else (none)) = some r := by rw [if_neg (show ¬ (false = true) by decide)] at H; exact H
 clear H
 have H := H1
 clear H1
 by_cases c78 : 0 ≤ x22_5
 rotate_left
 ·rw [if_neg c78] at H
  exact absurd H (by simp)
 as_aux_lemma =>
 rw [if_pos c78] at H
 have c78b0 : decide (0 ≤ x22_5) = true := decide_eq_true c78
 clear c78
 by_cases c79 : x20_4 ≥ ((rd_T50 x7_14 x22_5).f0)
 rotate_left
 ·as_aux_lemma =>
  rw [if_neg c79] at H
  have c79b0 : decide (((rd_T50 x7_14 x22_5).f0) ≤ x20_4) = false := decide_eq_false c79
  clear c79
  have H' := am_ H
  clear H
  try go_wp2
  have n0_ := am_ (Kd.R_drew HO_7.out)
  have n1_ := am_ (Kd.R_drew HO_18.out)
  have n2_ := am_ (Kd.R_drew HO_5z.out)
  have n3_ := am_ (Kd.R_drew HO_7z.out)
  have n4_ := am_ (blk_drew BK479.out)
  have n5_ := am_ (IsS72.drew HI486.out)
  have n6_ := am_ (IsS57.drew HI492.out)
  have n7_ := am_ (below_drew1 HB.out)
  clear HO_7
  clear HO_18
  clear HO_5z
  clear HO_7z
  clear BK479
  clear HI486
  clear HI492
  clear HB
  have HO_7 := n0_
  have HO_18 := n1_
  have HO_5z := n2_
  have HO_7z := n3_
  have BK479 := n4_
  have HI486 := n5_
  have HI492 := n6_
  have HB := n7_
  clear n0_ n1_ n2_ n3_ n4_ n5_ n6_ n7_
  have p555 : 0 ≤ (x22_5 : Int) := of_decide_eq_true aa_3
  have q555 : x22_5 < (x7_14.length : Int) := of_decide_eq_true aa_3
  obtain ⟨ad555, e555, hx555_0, hx555_1⟩ := at_T50 (Kd.R_reads' HO_7.out).2.2 x22_5 p555 q555
  cases e555
  replace p555 := eq_true p555
  replace q555 := eq_true q555
  refine start_ (n := 26) (S := fun w' => w'.cell? (ad555.add ((x22_5).toNat * 2)) = some (.int .i64 ((rd_T50 x7_14 x22_5).f0)) ∧ w'.cell? ⟨(ad555.add ((x22_5).toNat * 2)).block, (ad555.add ((x22_5).toNat * 2)).off + 1, none⟩ = some (.int .i64 ((rd_T50 x7_14 x22_5).f1))) (ds := []) bb52_ (by kernel_rfl) rfl rfl ⟨hx555_0, hx555_1⟩ (fun hHeld => ?_); refine with_tabW gangwaylaw19_IovBack.tab35 gangwaylaw19_IovBack.bits35 (fun HT_ HW_ => ?_)
  generalize wr.drew = w81 at HO_7 HO_18 HO_5z HO_7z BK479 HI486 HI492 HB hx555_0 hx555_1 hHeld ⊢
  refine pure_ (i := 0) (N := some 179) (v := ?_) (a' := ?_) bb51_ rfl rfl (any_of HT_.out (by kernel_rfl)) (fun _ _ _ h => h) (Or.inl ⟨by rfl, ?_⟩) ?_ ?_
  rotate_left; · intro w'; go_simp; with_reducible rfl
  rotate_left; · simp only [Act.put, e1, e2, e3, i64_w, i32_w]; rfl
  refine pure_ (i := 1) (N := some 180) (v := ?_) (a' := ?_) bb50_ rfl rfl (any_of HT_.out (by kernel_rfl)) (fun _ _ _ h => h) (Or.inl ⟨by rfl, ?_⟩) ?_ ?_
  rotate_left; · intro w'; go_simp; with_reducible rfl
  rotate_left; · simp only [Act.put, e1, e2, e3, i64_w, i32_w]; rfl
  refine pure_ (i := 2) (N := some 181) (v := ?_) (a' := ?_) bb49_ rfl rfl (any_of HT_.out (by kernel_rfl)) (fun _ _ _ h => h) (Or.inl ⟨by rfl, ?_⟩) ?_ ?_
  rotate_left; · intro w'; go_simp; with_reducible rfl
  rotate_left; · simp only [Act.put, e1, e2, e3, i64_w, i32_w]; rfl
  refine pure_ (i := 3) (N := some 182) (v := ?_) (a' := ?_) bb48_ rfl rfl (any_of HT_.out (by kernel_rfl)) (fun _ _ _ h => h) (Or.inl ⟨by rfl, ?_⟩) ?_ ?_
  rotate_left; · intro w'; go_simp; with_reducible rfl
  rotate_left; · simp only [Act.put, e1, e2, e3, i64_w, i32_w]; rfl
  refine pure_ (i := 4) (N := some 183) (v := ?_) (a' := ?_) bb47_ rfl rfl (any_of HT_.out (by kernel_rfl)) (fun _ _ _ h => h) (Or.inl ⟨by rfl, ?_⟩) ?_ ?_
  rotate_left; · intro w'; go_simp; with_reducible rfl
  rotate_left; · simp only [Act.put, e1, e2, e3, i64_w, i32_w]; rfl
  refine pure_ (i := 5) (N := some 184) (v := ?_) (a' := ?_) bb46_ rfl rfl (any_of HT_.out (by kernel_rfl)) (fun _ _ _ h => h) (Or.inl ⟨by rfl, ?_⟩) ?_ ?_
  rotate_left; · intro w'; go_simp; with_reducible rfl
  rotate_left; · simp only [Act.put, e1, e2, e3, i64_w, i32_w]; rfl
  refine pure_ (i := 6) (N := some 185) (v := ?_) (a' := ?_) bb45_ rfl rfl (any_of HT_.out (by kernel_rfl)) (fun _ _ _ h => h) (Or.inl ⟨by rfl, ?_⟩) ?_ ?_
  rotate_left; · intro w'; go_simp; with_reducible rfl
  rotate_left; · simp only [Act.put, e1, e2, e3, i64_w, i32_w]; rfl
  refine take_ (i := 7) (N := some 186) (v := ?_) (a' := ?_) bb44_ rfl rfl (take_ofW HT_.out HW_.out (by kernel_rfl)) (fun _ _ _ h => h) (Or.inl ⟨by rfl, ?_⟩) hHeld ?_ ?_
  rotate_left; · rintro w' ⟨s0, s1⟩; go_simp; with_reducible rfl
  rotate_left; · simp only [Act.put, e1, e2, e3, i64_w, i32_w]; rfl
  refine pure_ (i := 8) (N := some 187) (v := ?_) (a' := ?_) bb43_ rfl rfl (any_of HT_.out (by kernel_rfl)) (fun _ _ _ h => h) (Or.inl ⟨by rfl, ?_⟩) ?_ ?_
  rotate_left; · intro w'; go_simp; with_reducible rfl
  rotate_left; · simp only [Act.put, e1, e2, e3, i64_w, i32_w]; rfl
  refine pure_ (i := 9) (N := some 188) (v := ?_) (a' := ?_) bb42_ rfl rfl (any_of HT_.out (by kernel_rfl)) (fun _ _ _ h => h) (Or.inl ⟨by rfl, ?_⟩) ?_ ?_
  rotate_left; · intro w'; go_simp; with_reducible rfl
  rotate_left; · simp only [Act.put, e1, e2, e3, i64_w, i32_w]; rfl
  refine pure_ (i := 10) (N := some 189) (v := undef) (a' := ?_) bb41_ rfl rfl (any_of HT_.out (by kernel_rfl)) (fun _ _ _ h => h) (Or.inr ⟨by rfl, rfl⟩) ?_ ?_
  rotate_left; · simp only [Act.put, e1, e2, e3, i64_w, i32_w]; rfl
  refine pure_ (i := 11) (N := some 190) (v := undef) (a' := ?_) bb40_ rfl rfl (any_of HT_.out (by kernel_rfl)) (fun _ _ _ h => h) (Or.inr ⟨by rfl, rfl⟩) ?_ ?_
  rotate_left; · simp only [Act.put, e1, e2, e3, i64_w, i32_w]; rfl
  refine pure_ (i := 12) (N := some 191) (v := undef) (a' := ?_) bb39_ rfl rfl (any_of HT_.out (by kernel_rfl)) (fun _ _ _ h => h) (Or.inr ⟨by rfl, rfl⟩) ?_ ?_
  rotate_left; · simp only [Act.put, e1, e2, e3, i64_w, i32_w]; rfl
  refine pure_ (i := 13) (N := some 192) (v := undef) (a' := ?_) bb38_ rfl rfl (any_of HT_.out (by kernel_rfl)) (fun _ _ _ h => h) (Or.inr ⟨by rfl, rfl⟩) ?_ ?_
  rotate_left; · simp only [Act.put, e1, e2, e3, i64_w, i32_w]; rfl
  refine pure_ (i := 14) (N := some 193) (v := undef) (a' := ?_) bb37_ rfl rfl (any_of HT_.out (by kernel_rfl)) (fun _ _ _ h => h) (Or.inr ⟨by rfl, rfl⟩) ?_ ?_
  rotate_left; · simp only [Act.put, e1, e2, e3, i64_w, i32_w]; rfl
  refine pure_ (i := 15) (N := some 194) (v := undef) (a' := ?_) bb36_ rfl rfl (any_of HT_.out (by kernel_rfl)) (fun _ _ _ h => h) (Or.inr ⟨by rfl, rfl⟩) ?_ ?_
  rotate_left; · simp only [Act.put, e1, e2, e3, i64_w, i32_w]; rfl
  refine pure_ (i := 16) (N := some 195) (v := undef) (a' := ?_) bb34_ rfl rfl (any_of HT_.out (by kernel_rfl)) (fun _ _ _ h => h) (Or.inr ⟨by rfl, rfl⟩) ?_ ?_
  rotate_left; · simp only [Act.put, e1, e2, e3, i64_w, i32_w]; rfl
  refine pure_ (i := 17) (N := some 196) (v := undef) (a' := ?_) bb32_ rfl rfl (any_of HT_.out (by kernel_rfl)) (fun _ _ _ h => h) (Or.inr ⟨by rfl, rfl⟩) ?_ ?_
  rotate_left; · simp only [Act.put, e1, e2, e3, i64_w, i32_w]; rfl
  refine pure_ (i := 18) (N := some 197) (v := undef) (a' := ?_) bb30_ rfl rfl (any_of HT_.out (by kernel_rfl)) (fun _ _ _ h => h) (Or.inr ⟨by rfl, rfl⟩) ?_ ?_
  rotate_left; · simp only [Act.put, e1, e2, e3, i64_w, i32_w]; rfl
  refine pure_ (i := 19) (N := some 198) (v := undef) (a' := ?_) bb28_ rfl rfl (any_of HT_.out (by kernel_rfl)) (fun _ _ _ h => h) (Or.inr ⟨by rfl, rfl⟩) ?_ ?_
  rotate_left; · simp only [Act.put, e1, e2, e3, i64_w, i32_w]; rfl
  refine pure_ (i := 20) (N := some 199) (v := undef) (a' := ?_) bb27_ rfl rfl (any_of HT_.out (by kernel_rfl)) (fun _ _ _ h => h) (Or.inr ⟨by rfl, rfl⟩) ?_ ?_
  rotate_left; · simp only [Act.put, e1, e2, e3, i64_w, i32_w]; rfl
  refine pure_ (i := 21) (N := some 200) (v := undef) (a' := ?_) bb26_ rfl rfl (any_of HT_.out (by kernel_rfl)) (fun _ _ _ h => h) (Or.inr ⟨by rfl, rfl⟩) ?_ ?_
  rotate_left; · simp only [Act.put, e1, e2, e3, i64_w, i32_w]; rfl
  refine pure_ (i := 22) (N := some 201) (v := undef) (a' := ?_) bb25_ rfl rfl (any_of HT_.out (by kernel_rfl)) (fun _ _ _ h => h) (Or.inr ⟨by rfl, rfl⟩) ?_ ?_
  rotate_left; · simp only [Act.put, e1, e2, e3, i64_w, i32_w]; rfl
  refine pure_ (i := 23) (N := some 202) (v := ?_) (a' := ?_) bb24_ rfl rfl (any_of HT_.out (by kernel_rfl)) (fun _ _ _ h => h) (Or.inl ⟨by rfl, ?_⟩) ?_ ?_
  rotate_left; · intro w'; go_simp; with_reducible rfl
  rotate_left; · simp only [Act.put, e1, e2, e3, i64_w, i32_w]; rfl
  refine pure_ (i := 24) (N := some 203) (v := ?_) (a' := ?_) bb23_ rfl rfl (any_of HT_.out (by kernel_rfl)) (fun _ _ _ h => h) (Or.inl ⟨by rfl, ?_⟩) ?_ ?_
  rotate_left; · intro w'; go_simp; with_reducible rfl
  rotate_left; · simp only [Act.put, e1, e2, e3, i64_w, i32_w]; rfl
  refine pure_ (i := 25) (N := some 21) (v := ?_) (a' := ?_) bb22_ rfl rfl (any_of HT_.out (by kernel_rfl)) (fun _ _ _ h => h) (Or.inl ⟨by rfl, ?_⟩) ?_ ?_
  rotate_left; · intro w'; go_simp; with_reducible rfl
  rotate_left; · simp only [Act.put, e1, e2, e3, i64_w, i32_w]; rfl
  refine done_ (done_of HT_.out (by kernel_rfl)) ?_
  try go_wp2
  go_roundg k5
  case measure => have := HK1.out; have := HJ1.out; have := HJ14.out; have := HK4.out; have := HK5.out; omega
  case rel => exact ⟨(false), (wrap64 (x22_5 + 1)), aa_2, aa_2, H', ⟨by have := HK1.out; have := HJ1.out; have := HJ14.out; have := HK4.out; have := HK5.out; omega⟩, ⟨aa_11⟩, ⟨aa_12⟩, ⟨aa_10⟩, ⟨aa_8⟩, ⟨aa_6⟩, ⟨aa_9⟩, ⟨aa_5⟩, ⟨aa_4⟩⟩
 as_aux_lemma =>
 rw [if_pos c79] at H
 have c79b0 : decide (((rd_T50 x7_14 x22_5).f0) ≤ x20_4) = true := decide_eq_true c79
 clear c79
 have H' := am_ H
 clear H
 try go_wp2
 have n0_ := am_ (Kd.R_drew HO_7.out)
 have n1_ := am_ (Kd.R_drew HO_18.out)
 have n2_ := am_ (Kd.R_drew HO_5z.out)
 have n3_ := am_ (Kd.R_drew HO_7z.out)
 have n4_ := am_ (blk_drew BK479.out)
 have n5_ := am_ (IsS72.drew HI486.out)
 have n6_ := am_ (IsS57.drew HI492.out)
 have n7_ := am_ (below_drew1 HB.out)
 clear HO_7
 clear HO_18
 clear HO_5z
 clear HO_7z
 clear BK479
 clear HI486
 clear HI492
 clear HB
 have HO_7 := n0_
 have HO_18 := n1_
 have HO_5z := n2_
 have HO_7z := n3_
 have BK479 := n4_
 have HI486 := n5_
 have HI492 := n6_
 have HB := n7_
 clear n0_ n1_ n2_ n3_ n4_ n5_ n6_ n7_
 have p555 : 0 ≤ (x22_5 : Int) := of_decide_eq_true aa_3
 have q555 : x22_5 < (x7_14.length : Int) := of_decide_eq_true aa_3
 obtain ⟨ad555, e555, hx555_0, hx555_1⟩ := at_T50 (Kd.R_reads' HO_7.out).2.2 x22_5 p555 q555
 cases e555
 replace p555 := eq_true p555
 replace q555 := eq_true q555
 have p556 : 0 ≤ (x22_5 : Int) := of_decide_eq_true aa_3
 have q556 : x22_5 < (x7_14.length : Int) := of_decide_eq_true aa_3
 obtain ⟨ad556, e556, hx556_0, hx556_1⟩ := at_T50 (Kd.R_reads' HO_7.out).2.2 x22_5 p556 q556
 obtain rfl : ad555 = ad556 := (by injection e556)
 replace p556 := eq_true p556
 replace q556 := eq_true q556
 have p557 : 0 ≤ (x22_5 : Int) := of_decide_eq_true aa_3
 have q557 : x22_5 < (x7_14.length : Int) := of_decide_eq_true aa_3
 obtain ⟨ad557, e557, hx557_0, hx557_1⟩ := at_T50 (Kd.R_reads' HO_7.out).2.2 x22_5 p557 q557
 obtain rfl : ad555 = ad557 := (by injection e557)
 replace p557 := eq_true p557
 replace q557 := eq_true q557
 refine start_ (n := 26) (S := fun w' => w'.cell? (ad555.add ((x22_5).toNat * 2)) = some (.int .i64 ((rd_T50 x7_14 x22_5).f0)) ∧ w'.cell? ⟨(ad555.add ((x22_5).toNat * 2)).block, (ad555.add ((x22_5).toNat * 2)).off + 1, none⟩ = some (.int .i64 ((rd_T50 x7_14 x22_5).f1))) (ds := []) bb52_ (by kernel_rfl) rfl rfl ⟨hx555_0, hx555_1⟩ (fun hHeld => ?_); refine with_tabW gangwaylaw19_IovBack.tab35 gangwaylaw19_IovBack.bits35 (fun HT_ HW_ => ?_)
 generalize wr.drew = w80 at HO_7 HO_18 HO_5z HO_7z BK479 HI486 HI492 HB hx555_0 hx555_1 hx556_0 hx556_1 hx557_0 hx557_1 hHeld ⊢
 refine pure_ (i := 0) (N := some 179) (v := ?_) (a' := ?_) bb51_ rfl rfl (any_of HT_.out (by kernel_rfl)) (fun _ _ _ h => h) (Or.inl ⟨by rfl, ?_⟩) ?_ ?_
 rotate_left; · intro w'; go_simp; with_reducible rfl
 rotate_left; · simp only [Act.put, e1, e2, e3, i64_w, i32_w]; rfl
 refine pure_ (i := 1) (N := some 180) (v := ?_) (a' := ?_) bb50_ rfl rfl (any_of HT_.out (by kernel_rfl)) (fun _ _ _ h => h) (Or.inl ⟨by rfl, ?_⟩) ?_ ?_
 rotate_left; · intro w'; go_simp; with_reducible rfl
 rotate_left; · simp only [Act.put, e1, e2, e3, i64_w, i32_w]; rfl
 refine pure_ (i := 2) (N := some 181) (v := ?_) (a' := ?_) bb49_ rfl rfl (any_of HT_.out (by kernel_rfl)) (fun _ _ _ h => h) (Or.inl ⟨by rfl, ?_⟩) ?_ ?_
 rotate_left; · intro w'; go_simp; with_reducible rfl
 rotate_left; · simp only [Act.put, e1, e2, e3, i64_w, i32_w]; rfl
 refine pure_ (i := 3) (N := some 182) (v := ?_) (a' := ?_) bb48_ rfl rfl (any_of HT_.out (by kernel_rfl)) (fun _ _ _ h => h) (Or.inl ⟨by rfl, ?_⟩) ?_ ?_
 rotate_left; · intro w'; go_simp; with_reducible rfl
 rotate_left; · simp only [Act.put, e1, e2, e3, i64_w, i32_w]; rfl
 refine pure_ (i := 4) (N := some 183) (v := ?_) (a' := ?_) bb47_ rfl rfl (any_of HT_.out (by kernel_rfl)) (fun _ _ _ h => h) (Or.inl ⟨by rfl, ?_⟩) ?_ ?_
 rotate_left; · intro w'; go_simp; with_reducible rfl
 rotate_left; · simp only [Act.put, e1, e2, e3, i64_w, i32_w]; rfl
 refine pure_ (i := 5) (N := some 184) (v := ?_) (a' := ?_) bb46_ rfl rfl (any_of HT_.out (by kernel_rfl)) (fun _ _ _ h => h) (Or.inl ⟨by rfl, ?_⟩) ?_ ?_
 rotate_left; · intro w'; go_simp; with_reducible rfl
 rotate_left; · simp only [Act.put, e1, e2, e3, i64_w, i32_w]; rfl
 refine pure_ (i := 6) (N := some 185) (v := ?_) (a' := ?_) bb45_ rfl rfl (any_of HT_.out (by kernel_rfl)) (fun _ _ _ h => h) (Or.inl ⟨by rfl, ?_⟩) ?_ ?_
 rotate_left; · intro w'; go_simp; with_reducible rfl
 rotate_left; · simp only [Act.put, e1, e2, e3, i64_w, i32_w]; rfl
 refine take_ (i := 7) (N := some 186) (v := ?_) (a' := ?_) bb44_ rfl rfl (take_ofW HT_.out HW_.out (by kernel_rfl)) (fun _ _ _ h => h) (Or.inl ⟨by rfl, ?_⟩) hHeld ?_ ?_
 rotate_left; · rintro w' ⟨s0, s1⟩; go_simp; with_reducible rfl
 rotate_left; · simp only [Act.put, e1, e2, e3, i64_w, i32_w]; rfl
 refine pure_ (i := 8) (N := some 187) (v := ?_) (a' := ?_) bb43_ rfl rfl (any_of HT_.out (by kernel_rfl)) (fun _ _ _ h => h) (Or.inl ⟨by rfl, ?_⟩) ?_ ?_
 rotate_left; · intro w'; go_simp; with_reducible rfl
 rotate_left; · simp only [Act.put, e1, e2, e3, i64_w, i32_w]; rfl
 refine pure_ (i := 9) (N := some 188) (v := ?_) (a' := ?_) bb42_ rfl rfl (any_of HT_.out (by kernel_rfl)) (fun _ _ _ h => h) (Or.inl ⟨by rfl, ?_⟩) ?_ ?_
 rotate_left; · intro w'; go_simp; with_reducible rfl
 rotate_left; · simp only [Act.put, e1, e2, e3, i64_w, i32_w]; rfl
 refine pure_ (i := 10) (N := some 189) (v := ?_) (a' := ?_) bb41_ rfl rfl (any_of HT_.out (by kernel_rfl)) (fun _ _ _ h => h) (Or.inl ⟨by rfl, ?_⟩) ?_ ?_
 rotate_left; · intro w'; go_simp; with_reducible rfl
 rotate_left; · simp only [Act.put, e1, e2, e3, i64_w, i32_w]; rfl
 refine pure_ (i := 11) (N := some 190) (v := ?_) (a' := ?_) bb40_ rfl rfl (any_of HT_.out (by kernel_rfl)) (fun _ _ _ h => h) (Or.inl ⟨by rfl, ?_⟩) ?_ ?_
 rotate_left; · intro w'; go_simp; with_reducible rfl
 rotate_left; · simp only [Act.put, e1, e2, e3, i64_w, i32_w]; rfl
 refine pure_ (i := 12) (N := some 191) (v := ?_) (a' := ?_) bb39_ rfl rfl (any_of HT_.out (by kernel_rfl)) (fun _ _ _ h => h) (Or.inl ⟨by rfl, ?_⟩) ?_ ?_
 rotate_left; · intro w'; go_simp; with_reducible rfl
 rotate_left; · simp only [Act.put, e1, e2, e3, i64_w, i32_w]; rfl
 refine pure_ (i := 13) (N := some 192) (v := ?_) (a' := ?_) bb38_ rfl rfl (any_of HT_.out (by kernel_rfl)) (fun _ _ _ h => h) (Or.inl ⟨by rfl, ?_⟩) ?_ ?_
 rotate_left; · intro w'; go_simp; with_reducible rfl
 rotate_left; · simp only [Act.put, e1, e2, e3, i64_w, i32_w]; rfl
 refine pure_ (i := 14) (N := some 193) (v := ?_) (a' := ?_) bb37_ rfl rfl (any_of HT_.out (by kernel_rfl)) (fun _ _ _ h => h) (Or.inl ⟨by rfl, ?_⟩) ?_ ?_
 rotate_left; · intro w'; go_simp; with_reducible rfl
 rotate_left; · simp only [Act.put, e1, e2, e3, i64_w, i32_w]; rfl
 refine pure_ (i := 16) (N := some 195) (v := ?_) (a' := ?_) bb35_ rfl rfl (any_of HT_.out (by kernel_rfl)) (fun _ _ _ h => h) (Or.inl ⟨by rfl, ?_⟩) ?_ ?_
 rotate_left; · intro w'; go_simp; with_reducible rfl
 rotate_left; · simp only [Act.put, e1, e2, e3, i64_w, i32_w]; rfl
 refine pure_ (i := 17) (N := some 196) (v := ?_) (a' := ?_) bb33_ rfl rfl (any_of HT_.out (by kernel_rfl)) (fun _ _ _ h => h) (Or.inl ⟨by rfl, ?_⟩) ?_ ?_
 rotate_left; · intro w'; go_simp; with_reducible rfl
 rotate_left; · simp only [Act.put, e1, e2, e3, i64_w, i32_w]; rfl
 refine pure_ (i := 18) (N := some 197) (v := ?_) (a' := ?_) bb31_ rfl rfl (any_of HT_.out (by kernel_rfl)) (fun _ _ _ h => h) (Or.inl ⟨by rfl, ?_⟩) ?_ ?_
 rotate_left; · intro w'; go_simp; with_reducible rfl
 rotate_left; · simp only [Act.put, e1, e2, e3, i64_w, i32_w]; rfl
 refine pure_ (i := 19) (N := some 198) (v := ?_) (a' := ?_) bb29_ rfl rfl (any_of HT_.out (by kernel_rfl)) (fun _ _ _ h => h) (Or.inl ⟨by rfl, ?_⟩) ?_ ?_
 rotate_left; · intro w'; go_simp; with_reducible rfl
 rotate_left; · simp only [Act.put, e1, e2, e3, i64_w, i32_w]; rfl
 refine take_ (i := 15) (N := some 194) (v := ?_) (a' := ?_) bb28_ rfl rfl (take_ofW HT_.out HW_.out (by kernel_rfl)) (fun _ _ _ h => h) (Or.inl ⟨by rfl, ?_⟩) hHeld ?_ ?_
 rotate_left; · rintro w' ⟨s0, s1⟩; go_simp; with_reducible rfl
 rotate_left; · simp only [Act.put, e1, e2, e3, i64_w, i32_w]; rfl
 refine take_ (i := 20) (N := some 199) (v := ?_) (a' := ?_) bb27_ rfl rfl (take_ofW HT_.out HW_.out (by kernel_rfl)) (fun _ _ _ h => h) (Or.inl ⟨by rfl, ?_⟩) hHeld ?_ ?_
 rotate_left; · rintro w' ⟨s0, s1⟩; go_simp; with_reducible rfl
 rotate_left; · simp only [Act.put, e1, e2, e3, i64_w, i32_w]; rfl
 refine pure_ (i := 21) (N := some 200) (v := ?_) (a' := ?_) bb26_ rfl rfl (any_of HT_.out (by kernel_rfl)) (fun _ _ _ h => h) (Or.inl ⟨by rfl, ?_⟩) ?_ ?_
 rotate_left; · intro w'; go_simp; with_reducible rfl
 rotate_left; · simp only [Act.put, e1, e2, e3, i64_w, i32_w]; rfl
 refine pure_ (i := 22) (N := some 201) (v := ?_) (a' := ?_) bb25_ rfl rfl (any_of HT_.out (by kernel_rfl)) (fun _ _ _ h => h) (Or.inl ⟨by rfl, ?_⟩) ?_ ?_
 rotate_left; · intro w'; go_simp; with_reducible rfl
 rotate_left; · simp only [Act.put, e1, e2, e3, i64_w, i32_w]; rfl
 refine pure_ (i := 23) (N := some 202) (v := ?_) (a' := ?_) bb24_ rfl rfl (any_of HT_.out (by kernel_rfl)) (fun _ _ _ h => h) (Or.inl ⟨by rfl, ?_⟩) ?_ ?_
 rotate_left; · intro w'; go_simp; with_reducible rfl
 rotate_left; · simp only [Act.put, e1, e2, e3, i64_w, i32_w]; rfl
 refine pure_ (i := 24) (N := some 203) (v := ?_) (a' := ?_) bb23_ rfl rfl (any_of HT_.out (by kernel_rfl)) (fun _ _ _ h => h) (Or.inl ⟨by rfl, ?_⟩) ?_ ?_
 rotate_left; · intro w'; go_simp; with_reducible rfl
 rotate_left; · simp only [Act.put, e1, e2, e3, i64_w, i32_w]; rfl
 refine pure_ (i := 25) (N := some 21) (v := ?_) (a' := ?_) bb22_ rfl rfl (any_of HT_.out (by kernel_rfl)) (fun _ _ _ h => h) (Or.inl ⟨by rfl, ?_⟩) ?_ ?_
 rotate_left; · intro w'; go_simp; with_reducible rfl
 rotate_left; · simp only [Act.put, e1, e2, e3, i64_w, i32_w]; rfl
 refine done_ (done_of HT_.out (by kernel_rfl)) ?_
 try go_wp2
 go_roundg k5
 case measure => have := HK1.out; have := HJ1.out; have := HJ14.out; have := HK4.out; have := HK5.out; omega
 case rel => exact ⟨(decide (x20_4 < (wrap64 (((rd_T50 x7_14 x22_5).f0) + ((rd_T50 x7_14 x22_5).f1))))), (wrap64 (x22_5 + 1)), aa_2, aa_2, H', ⟨by have := HK1.out; have := HJ1.out; have := HJ14.out; have := HK4.out; have := HK5.out; omega⟩, ⟨aa_11⟩, ⟨aa_12⟩, ⟨aa_10⟩, ⟨aa_8⟩, ⟨aa_6⟩, ⟨aa_9⟩, ⟨aa_5⟩, ⟨aa_4⟩⟩
/-- THE ONE PURE STATEMENT of gangwaylaw19_IovBack: yours. -/
def gangwaylaw19_IovBack.Pure : Prop := ∀ (x0 : List (S26)), (x0.length * 88 ≤ 140737488351232 ∧ ∀ y560 ∈ x0, okT26 y560) → ∃ k, gangwaylaw19_IovBack.f k x0 = some true
theorem gangwaylaw19_IovBack.walk (P : gangwaylaw19_IovBack.Pure) (w : World) (x0 : List (S26)) (A0 : Option Addr) (c0 : Nat) (hr0 : Kd.C k26 w A0 x0.length x0) (hc0 : x0.length ≤ c0) (hok0 : (x0.length * 88 ≤ 140737488351232 ∧ ∀ y561 ∈ x0, okT26 y561)) :
  Calls Try.prog 4 #[.slice A0 x0.length c0] w fun e w' => e = .returned (.bool true) ∧ Below w.heap.size w w' := by
 obtain ⟨k, h⟩ := P x0 hok0
 refine (gangwaylaw19_IovBack.calls k _ _ x0 true w hr0 hc0 h).mono ?_
 rintro e w' ⟨rfl, hd⟩
 exact ⟨rfl, hd⟩

end Go.Proofs.Ytdoaininjfbemaa.PAll
