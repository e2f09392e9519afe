/- Printed by a copy of the printer that was turned for this claim: functions as plain Lean functions, with proofs that their calls come to these; or words that such proofs use. -/
import Derived.Test.YthhmnecnoojcpaaPAllx0
import Derived.Test.YthhmnecnoojcpaaPAllx2
import Derived.Test.YthhmnecnoojcpaaPAllx3
import Derived.Test.YthhmnecnoojcpaaPAllx5
import Derived.Test.YthhmnecnoojcpaaPAllx10
import Derived.Test.YthhmnecnoojcpaaPAllx13
import Derived.Test.YthhmnecnoojcpaaPAllx15
namespace Go.Proofs.Ythhmnecnoojcpaa.PAll
open Go.RowKit Go.Proofs.YthhmnecnoojcpaaW.PrintWords Go.Proofs.YthhmnecnoojcpaaW.PrintLast Go.Proofs.YthhmnecnoojcpaaW.PrintMore
attribute [local go_sem] max2_int min2_int max_two min_two max_three min_three max_four min_four   -- for this text's walks alone
set_option linter.unusedVariables false
set_option linter.unusedSimpArgs false

/-! ### gangwaylaw20_StatLengths: function 9 -/
abbrev gangwaylaw20_StatLengths.t : Bool := true
abbrev gangwaylaw20_StatLengths.f_ : Bool := false
def gangwaylaw20_StatLengths.bb0_ : Array Bool := #[t, t, t, t, t, t, t, t, t, t, t, t, t, t, t, t, t, t, t, t]
def gangwaylaw20_StatLengths.bb1_ : Array Bool := #[t, t, t, t, t, t, t, t, t, t, t, t, t, t, t, t, t, t, t, f_]
def gangwaylaw20_StatLengths.bb2_ : Array Bool := #[t, t, t, t, t, t, t, t, t, t, t, t, t, t, t, t, t, t, f_, f_]
def gangwaylaw20_StatLengths.bb3_ : Array Bool := #[t, t, t, t, t, t, t, t, t, t, t, t, t, t, t, t, t, f_, f_, f_]
def gangwaylaw20_StatLengths.bb4_ : Array Bool := #[t, t, t, t, t, t, t, t, t, t, t, t, t, t, f_, t, t, f_, f_, f_]
def gangwaylaw20_StatLengths.bb5_ : Array Bool := #[t, t, t, t, t, t, t, t, t, t, t, t, t, t, t, t, f_, f_, f_, f_]
def gangwaylaw20_StatLengths.bb6_ : Array Bool := #[t, t, t, t, t, t, t, t, t, t, t, t, t, t, f_, t, f_, f_, f_, f_]
def gangwaylaw20_StatLengths.bb7_ : Array Bool := #[t, t, t, t, t, t, t, t, t, t, t, t, t, t, t, f_, f_, f_, f_, f_]
def gangwaylaw20_StatLengths.bb8_ : Array Bool := #[t, t, t, t, t, t, t, t, t, t, t, t, t, t, f_, f_, f_, f_, f_, f_]
def gangwaylaw20_StatLengths.bb9_ : Array Bool := #[t, t, t, t, t, t, t, t, t, t, t, t, t, f_, f_, f_, f_, f_, f_, f_]
def gangwaylaw20_StatLengths.bb10_ : Array Bool := #[t, t, t, t, t, t, t, t, t, t, t, t, f_, f_, f_, f_, f_, f_, f_, f_]
def gangwaylaw20_StatLengths.bb11_ : Array Bool := #[t, t, t, t, t, t, t, t, t, t, t, f_, f_, f_, f_, f_, f_, f_, f_, f_]
def gangwaylaw20_StatLengths.bb12_ : Array Bool := #[t, t, t, t, t, t, t, t, t, t, f_, f_, f_, f_, f_, f_, f_, f_, f_, f_]
def gangwaylaw20_StatLengths.bb13_ : Array Bool := #[t, t, t, t, t, t, t, t, t, f_, f_, f_, f_, f_, f_, f_, f_, f_, f_, f_]
def gangwaylaw20_StatLengths.bb14_ : Array Bool := #[t, t, t, t, t, t, t, t, f_, f_, f_, f_, f_, f_, f_, f_, f_, f_, f_, f_]
def gangwaylaw20_StatLengths.bb15_ : Array Bool := #[t, t, t, t, t, t, t, f_, f_, f_, f_, f_, f_, f_, f_, f_, f_, f_, f_, f_]
def gangwaylaw20_StatLengths.bb16_ : Array Bool := #[t, t, t, t, t, t, f_, f_, f_, f_, f_, f_, f_, f_, f_, f_, f_, f_, f_, f_]
def gangwaylaw20_StatLengths.bb17_ : Array Bool := #[t, t, t, t, t, f_, f_, f_, f_, f_, f_, f_, f_, f_, f_, f_, f_, f_, f_, f_]
def gangwaylaw20_StatLengths.bb18_ : Array Bool := #[t, t, t, t, f_, f_, f_, f_, f_, f_, f_, f_, f_, f_, f_, f_, f_, f_, f_, f_]
def gangwaylaw20_StatLengths.bb19_ : Array Bool := #[t, t, t, f_, f_, f_, f_, f_, f_, f_, f_, f_, f_, f_, f_, f_, f_, f_, f_, f_]
def gangwaylaw20_StatLengths.bb20_ : Array Bool := #[t, t, f_, f_, f_, f_, f_, f_, f_, f_, f_, f_, f_, f_, f_, f_, f_, f_, f_, f_]
def gangwaylaw20_StatLengths.bb21_ : Array Bool := #[t, f_, f_, f_, f_, f_, f_, f_, f_, f_, f_, f_, f_, f_, f_, f_, f_, f_, f_, f_]
def gangwaylaw20_StatLengths.bb22_ : Array Bool := #[f_, f_, f_, f_, f_, f_, f_, f_, f_, f_, f_, f_, f_, f_, f_, f_, f_, f_, f_, f_]
def gangwaylaw20_StatLengths.bb23_ : Array Bool := #[t, t, t, t, t, t, t, t, t, t, t, t, t, t, t, t, t, t, t, t, t, t, t, t, t, t, t, t, t, t]
def gangwaylaw20_StatLengths.bb24_ : Array Bool := #[t, t, t, t, t, t, t, t, t, t, t, t, t, t, t, t, t, t, t, t, t, t, t, t, t, t, t, t, t, f_]
def gangwaylaw20_StatLengths.bb25_ : Array Bool := #[t, t, t, t, t, t, t, t, t, t, t, t, t, t, t, t, t, t, t, t, t, t, t, t, t, t, t, t, f_, f_]
def gangwaylaw20_StatLengths.bb26_ : Array Bool := #[t, t, t, t, t, t, t, t, t, t, t, t, t, t, t, t, t, t, t, t, t, t, t, t, t, t, t, f_, f_, f_]
def gangwaylaw20_StatLengths.bb27_ : Array Bool := #[t, t, t, t, t, t, t, t, t, t, t, t, t, t, t, t, t, t, t, t, t, t, t, t, t, t, f_, f_, f_, f_]
def gangwaylaw20_StatLengths.bb28_ : Array Bool := #[t, t, t, t, t, t, t, t, t, t, t, t, t, t, t, t, t, t, t, t, t, t, t, t, t, f_, f_, f_, f_, f_]
def gangwaylaw20_StatLengths.bb29_ : Array Bool := #[t, t, t, t, t, t, t, t, t, t, t, t, t, t, t, t, t, t, t, t, t, t, t, t, f_, f_, f_, f_, f_, f_]
def gangwaylaw20_StatLengths.bb30_ : Array Bool := #[t, t, t, t, t, t, t, t, t, t, t, t, t, t, t, t, t, t, t, t, t, t, t, t, t, t, t, t, t, t, t]
def gangwaylaw20_StatLengths.bb31_ : Array Bool := #[t, t, t, t, t, t, t, t, t, t, t, t, t, t, t, t, t, t, t, t, t, t, t, f_, f_, f_, f_, f_, f_, f_]
def gangwaylaw20_StatLengths.bb32_ : Array Bool := #[t, t, t, t, t, t, t, t, t, t, t, t, t, t, t, t, t, t, t, t, t, t, t, t, t, t, t, t, t, t, f_]
def gangwaylaw20_StatLengths.bb33_ : Array Bool := #[t, t, t, t, t, t, t, t, t, t, t, t, t, t, t, t, t, t, t, t, t, t, f_, f_, f_, f_, f_, f_, f_, f_]
def gangwaylaw20_StatLengths.bb34_ : Array Bool := #[t, t, t, t, t, t, t, t, t, t, t, t, t, t, t, t, t, t, t, t, t, t, t, t, t, t, t, t, t, f_, f_]
def gangwaylaw20_StatLengths.bb35_ : Array Bool := #[t, t, t, t, t, t, t, t, t, t, t, t, t, t, t, t, t, t, t, t, t, f_, f_, f_, f_, f_, f_, f_, f_, f_]
def gangwaylaw20_StatLengths.bb36_ : Array Bool := #[t, t, t, t, t, t, t, t, t, t, t, t, t, t, t, t, t, t, t, t, t, t, t, t, t, t, t, t, f_, f_, f_]
def gangwaylaw20_StatLengths.bb37_ : Array Bool := #[t, t, t, t, t, t, t, t, t, t, t, t, t, t, t, t, t, t, t, t, f_, f_, f_, f_, f_, f_, f_, f_, f_, f_]
def gangwaylaw20_StatLengths.bb38_ : Array Bool := #[t, t, t, t, t, t, t, t, t, t, t, t, t, t, t, t, t, t, t, t, t, t, t, t, t, t, t, f_, f_, f_, f_]
def gangwaylaw20_StatLengths.bb39_ : Array Bool := #[t, t, t, t, t, t, t, t, t, t, t, t, t, t, t, t, t, t, t, f_, f_, f_, f_, f_, f_, f_, f_, f_, f_, f_]
def gangwaylaw20_StatLengths.bb40_ : Array Bool := #[t, t, t, t, t, t, t, t, t, t, t, t, t, t, t, t, t, t, t, t, t, t, t, t, t, t, f_, f_, f_, f_, f_]
def gangwaylaw20_StatLengths.bb41_ : Array Bool := #[t, t, t, t, t, t, t, t, t, t, t, t, t, t, t, t, t, t, f_, f_, f_, f_, f_, f_, f_, f_, f_, f_, f_, f_]
def gangwaylaw20_StatLengths.bb42_ : Array Bool := #[t, t, t, t, t, t, t, t, t, t, t, t, t, t, t, t, t, t, t, t, t, t, t, t, t, f_, f_, f_, f_, f_, f_]
def gangwaylaw20_StatLengths.bb43_ : Array Bool := #[t, t, t, t, t, t, t, t, t, t, t, t, t, t, t, t, t, f_, f_, f_, f_, f_, f_, f_, f_, f_, f_, f_, f_, f_]
def gangwaylaw20_StatLengths.bb44_ : Array Bool := #[t, t, t, t, t, t, t, t, t, t, t, t, t, t, t, t, t, t, t, t, t, t, f_, t, t, f_, f_, f_, f_, f_, f_]
def gangwaylaw20_StatLengths.bb45_ : Array Bool := #[t, t, t, t, t, t, t, t, t, t, t, t, t, t, t, t, t, t, t, t, t, t, t, t, f_, f_, f_, f_, f_, f_, f_]
def gangwaylaw20_StatLengths.bb46_ : Array Bool := #[t, t, t, t, t, t, t, t, t, t, t, t, t, t, t, t, f_, f_, f_, f_, f_, f_, f_, f_, f_, f_, f_, f_, f_, f_]
def gangwaylaw20_StatLengths.bb47_ : Array Bool := #[t, t, t, t, t, t, t, t, t, t, t, t, t, t, t, t, t, t, t, t, t, f_, f_, t, t, f_, f_, f_, f_, f_, f_]
def gangwaylaw20_StatLengths.bb48_ : Array Bool := #[t, t, t, t, t, t, t, t, t, t, t, t, t, t, t, t, t, t, t, t, t, t, t, f_, f_, f_, f_, f_, f_, f_, f_]
def gangwaylaw20_StatLengths.bb49_ : Array Bool := #[t, t, t, t, t, t, t, t, t, t, t, t, t, t, t, f_, f_, f_, f_, f_, f_, f_, f_, f_, f_, f_, f_, f_, f_, f_]
def gangwaylaw20_StatLengths.bb50_ : Array Bool := #[t, t, t, t, t, t, t, t, t, t, t, t, t, t, t, t, t, t, t, t, f_, f_, f_, t, t, f_, f_, f_, f_, f_, f_]
def gangwaylaw20_StatLengths.bb51_ : Array Bool := #[t, t, t, t, t, t, t, t, t, t, t, t, t, t, t, t, t, t, t, t, t, t, f_, f_, f_, f_, f_, f_, f_, f_, f_]
def gangwaylaw20_StatLengths.bb52_ : Array Bool := #[t, t, t, t, t, t, t, t, t, t, t, t, t, t, f_, f_, f_, f_, f_, f_, f_, f_, f_, f_, f_, f_, f_, f_, f_, f_]
def gangwaylaw20_StatLengths.bb53_ : Array Bool := #[t, t, t, t, t, t, t, t, t, t, t, t, t, t, t, t, t, t, t, f_, f_, f_, f_, t, t, f_, f_, f_, f_, f_, f_]
def gangwaylaw20_StatLengths.bb54_ : Array Bool := #[t, t, t, t, t, t, t, t, t, t, t, t, t, t, t, t, t, t, t, t, t, f_, f_, f_, f_, f_, f_, f_, f_, f_, f_]
def gangwaylaw20_StatLengths.bb55_ : Array Bool := #[t, t, t, t, t, t, t, t, t, t, t, f_, t, t, f_, f_, f_, f_, f_, f_, f_, f_, f_, f_, f_, f_, f_, f_, f_, f_]
def gangwaylaw20_StatLengths.bb56_ : Array Bool := #[t, t, t, t, t, t, t, t, t, t, t, t, t, f_, f_, f_, f_, f_, f_, f_, f_, f_, f_, f_, f_, f_, f_, f_, f_, f_]
def gangwaylaw20_StatLengths.bb57_ : Array Bool := #[t, t, t, t, t, t, t, t, t, t, t, t, t, t, t, t, f_, t, t, f_, f_, f_, f_, t, t, f_, f_, f_, f_, f_, f_]
def gangwaylaw20_StatLengths.bb58_ : Array Bool := #[t, t, t, t, t, t, t, t, t, t, t, t, t, t, t, t, t, t, t, t, f_, f_, f_, f_, f_, f_, f_, f_, f_, f_, f_]
def gangwaylaw20_StatLengths.bb59_ : Array Bool := #[t, t, t, t, t, t, t, t, t, t, f_, f_, t, t, f_, f_, f_, f_, f_, f_, f_, f_, f_, f_, f_, f_, f_, f_, f_, f_]
def gangwaylaw20_StatLengths.bb60_ : Array Bool := #[t, t, t, t, t, t, t, t, t, t, t, t, f_, f_, f_, f_, f_, f_, f_, f_, f_, f_, f_, f_, f_, f_, f_, f_, f_, f_]
def gangwaylaw20_StatLengths.bb61_ : Array Bool := #[t, t, t, t, t, t, t, t, t, t, t, t, t, t, t, f_, f_, t, t, f_, f_, f_, f_, t, t, f_, f_, f_, f_, f_, f_]
def gangwaylaw20_StatLengths.bb62_ : Array Bool := #[t, t, t, t, t, t, t, t, t, t, t, t, t, t, t, t, t, t, t, f_, f_, f_, f_, f_, f_, f_, f_, f_, f_, f_, f_]
def gangwaylaw20_StatLengths.bb63_ : Array Bool := #[t, t, t, t, t, t, t, t, t, t, f_, f_, t, f_, f_, f_, f_, f_, f_, f_, f_, f_, f_, f_, f_, f_, f_, f_, f_, f_]
def gangwaylaw20_StatLengths.bb64_ : Array Bool := #[t, t, t, t, t, t, t, t, t, t, t, f_, f_, f_, f_, f_, f_, f_, f_, f_, f_, f_, f_, f_, f_, f_, f_, f_, f_, f_]
def gangwaylaw20_StatLengths.bb65_ : Array Bool := #[t, t, t, t, t, t, t, t, t, t, t, t, t, t, t, f_, f_, t, t, f_, f_, f_, f_, t, f_, f_, f_, f_, f_, f_, f_]
def gangwaylaw20_StatLengths.bb66_ : Array Bool := #[t, t, t, t, t, t, t, t, t, t, t, t, t, t, t, t, t, t, f_, f_, f_, f_, f_, f_, f_, f_, f_, f_, f_, f_, f_]
def gangwaylaw20_StatLengths.bb67_ : Array Bool := #[t, t, t, t, t, t, t, t, t, t, f_, f_, f_, f_, f_, f_, f_, f_, f_, f_, f_, f_, f_, f_, f_, f_, f_, f_, f_, f_]
def gangwaylaw20_StatLengths.bb68_ : Array Bool := #[t, t, t, t, t, t, t, t, t, t, t, t, t, t, t, f_, f_, t, t, f_, f_, f_, f_, f_, f_, f_, f_, f_, f_, f_, f_]
def gangwaylaw20_StatLengths.bb69_ : Array Bool := #[t, t, t, t, t, t, t, t, t, t, t, t, t, t, t, t, t, f_, f_, f_, f_, f_, f_, f_, f_, f_, f_, f_, f_, f_, f_]
def gangwaylaw20_StatLengths.bb70_ : Array Bool := #[t, t, t, t, t, t, t, t, t, f_, f_, f_, f_, f_, f_, f_, f_, f_, f_, f_, f_, f_, f_, f_, f_, f_, f_, f_, f_, f_]
def gangwaylaw20_StatLengths.bb71_ : Array Bool := #[t, t, t, t, t, t, t, t, t, t, t, t, t, t, t, f_, f_, t, f_, f_, f_, f_, f_, f_, f_, f_, f_, f_, f_, f_, f_]
def gangwaylaw20_StatLengths.bb72_ : Array Bool := #[t, t, t, t, t, t, t, t, t, t, t, t, t, t, t, t, f_, f_, f_, f_, f_, f_, f_, f_, f_, f_, f_, f_, f_, f_, f_]
def gangwaylaw20_StatLengths.bb73_ : Array Bool := #[t, t, t, t, t, t, t, t, f_, f_, f_, f_, f_, f_, f_, f_, f_, f_, f_, f_, f_, f_, f_, f_, f_, f_, f_, f_, f_, f_]
def gangwaylaw20_StatLengths.bb74_ : Array Bool := #[t, t, t, t, t, t, t, t, t, t, t, t, t, t, t, f_, f_, f_, f_, f_, f_, f_, f_, f_, f_, f_, f_, f_, f_, f_, f_]
def gangwaylaw20_StatLengths.bb75_ : Array Bool := #[t, t, t, t, t, t, t, f_, f_, f_, f_, f_, f_, f_, f_, f_, f_, f_, f_, f_, f_, f_, f_, f_, f_, f_, f_, f_, f_, f_]
def gangwaylaw20_StatLengths.bb76_ : Array Bool := #[t, t, t, t, t, t, t, t, t, t, t, t, t, t, f_, f_, f_, f_, f_, f_, f_, f_, f_, f_, f_, f_, f_, f_, f_, f_, f_]
def gangwaylaw20_StatLengths.bb77_ : Array Bool := #[t, t, t, t, t, t, f_, f_, f_, f_, f_, f_, f_, f_, f_, f_, f_, f_, f_, f_, f_, f_, f_, f_, f_, f_, f_, f_, f_, f_]
def gangwaylaw20_StatLengths.bb78_ : Array Bool := #[t, t, t, t, t, t, t, t, t, t, t, t, t, f_, f_, f_, f_, f_, f_, f_, f_, f_, f_, f_, f_, f_, f_, f_, f_, f_, f_]
def gangwaylaw20_StatLengths.bb79_ : Array Bool := #[t, t, t, t, t, f_, f_, f_, f_, f_, f_, f_, f_, f_, f_, f_, f_, f_, f_, f_, f_, f_, f_, f_, f_, f_, f_, f_, f_, f_]
def gangwaylaw20_StatLengths.bb80_ : Array Bool := #[t, t, t, t, t, t, t, t, t, t, t, t, f_, f_, f_, f_, f_, f_, f_, f_, f_, f_, f_, f_, f_, f_, f_, f_, f_, f_, f_]
def gangwaylaw20_StatLengths.bb81_ : Array Bool := #[t, t, t, t, f_, f_, f_, f_, f_, f_, f_, f_, f_, f_, f_, f_, f_, f_, f_, f_, f_, f_, f_, f_, f_, f_, f_, f_, f_, f_]
def gangwaylaw20_StatLengths.bb82_ : Array Bool := #[t, t, t, t, t, t, t, t, t, t, t, f_, f_, f_, f_, f_, f_, f_, f_, f_, f_, f_, f_, f_, f_, f_, f_, f_, f_, f_, f_]
def gangwaylaw20_StatLengths.bb83_ : Array Bool := #[t, t, t, f_, f_, f_, f_, f_, f_, f_, f_, f_, f_, f_, f_, f_, f_, f_, f_, f_, f_, f_, f_, f_, f_, f_, f_, f_, f_, f_]
def gangwaylaw20_StatLengths.bb84_ : Array Bool := #[t, t, t, t, t, t, t, t, t, t, f_, f_, f_, f_, f_, f_, f_, f_, f_, f_, f_, f_, f_, f_, f_, f_, f_, f_, f_, f_, f_]
def gangwaylaw20_StatLengths.bb85_ : Array Bool := #[t, t, f_, f_, f_, f_, f_, f_, f_, f_, f_, f_, f_, f_, f_, f_, f_, f_, f_, f_, f_, f_, f_, f_, f_, f_, f_, f_, f_, f_]
def gangwaylaw20_StatLengths.bb86_ : Array Bool := #[t, t, t, t, t, t, t, t, t, f_, f_, f_, f_, f_, f_, f_, f_, f_, f_, f_, f_, f_, f_, f_, f_, f_, f_, f_, f_, f_, f_]
def gangwaylaw20_StatLengths.bb87_ : Array Bool := #[t, f_, f_, f_, f_, f_, f_, f_, f_, f_, f_, f_, f_, f_, f_, f_, f_, f_, f_, f_, f_, f_, f_, f_, f_, f_, f_, f_, f_, f_]
def gangwaylaw20_StatLengths.bb88_ : Array Bool := #[t, t, t, t, t, t, t, t, f_, f_, f_, f_, f_, f_, f_, f_, f_, f_, f_, f_, f_, f_, f_, f_, f_, f_, f_, f_, f_, f_, f_]
def gangwaylaw20_StatLengths.bb89_ : Array Bool := #[f_, f_, f_, f_, f_, f_, f_, f_, f_, f_, f_, f_, f_, f_, f_, f_, f_, f_, f_, f_, f_, f_, f_, f_, f_, f_, f_, f_, f_, f_]
def gangwaylaw20_StatLengths.bb90_ : Array Bool := #[t, t, t, t, t, t, t, f_, f_, f_, f_, f_, f_, f_, f_, f_, f_, f_, f_, f_, f_, f_, f_, f_, f_, f_, f_, f_, f_, f_, f_]
def gangwaylaw20_StatLengths.bb91_ : Array Bool := #[t, t, t, t, t, t, f_, f_, f_, f_, f_, f_, f_, f_, f_, f_, f_, f_, f_, f_, f_, f_, f_, f_, f_, f_, f_, f_, f_, f_, f_]
def gangwaylaw20_StatLengths.bb92_ : Array Bool := #[t, t, t, t, t, f_, f_, f_, f_, f_, f_, f_, f_, f_, f_, f_, f_, f_, f_, f_, f_, f_, f_, f_, f_, f_, f_, f_, f_, f_, f_]
def gangwaylaw20_StatLengths.bb93_ : Array Bool := #[t, t, t, t, f_, f_, f_, f_, f_, f_, f_, f_, f_, f_, f_, f_, f_, f_, f_, f_, f_, f_, f_, f_, f_, f_, f_, f_, f_, f_, f_]
def gangwaylaw20_StatLengths.bb94_ : Array Bool := #[t, t, t, f_, f_, f_, f_, f_, f_, f_, f_, f_, f_, f_, f_, f_, f_, f_, f_, f_, f_, f_, f_, f_, f_, f_, f_, f_, f_, f_, f_]
def gangwaylaw20_StatLengths.bb95_ : Array Bool := #[t, t, f_, f_, f_, f_, f_, f_, f_, f_, f_, f_, f_, f_, f_, f_, f_, f_, f_, f_, f_, f_, f_, f_, f_, f_, f_, f_, f_, f_, f_]
def gangwaylaw20_StatLengths.bb96_ : Array Bool := #[t, f_, f_, f_, f_, f_, f_, f_, f_, f_, f_, f_, f_, f_, f_, f_, f_, f_, f_, f_, f_, f_, f_, f_, f_, f_, f_, f_, f_, f_, f_]
def gangwaylaw20_StatLengths.bb97_ : Array Bool := #[f_, f_, f_, f_, f_, f_, f_, f_, f_, f_, f_, f_, f_, f_, f_, f_, f_, f_, f_, f_, f_, f_, f_, f_, f_, f_, f_, f_, f_, f_, f_]
theorem gangwaylaw20_StatLengths.bc {w : World} {g : Nat} {cs : Array Value} {t : TypeId} (h : Aside0 (w.heap[g]? = some (.cells cs t (0, 0)))) (i : Nat) {v : Value} (e : cs[i]? = some v := by rfl) : w.cell? ⟨g, i, none⟩ = some v := (blk_cell h.out i).trans e
theorem gangwaylaw20_StatLengths.bkept {W0 W W2 : World} {g : Nat} {o : Obj} {S : Nat → Prop} (_b : Aside0 (W0.heap[g]? = some o)) (h : W.heap[g]? = some o) (hk : Kept W W2 S) (hn : ¬ S g) : W2.heap[g]? = some o := blk_kept h hk hn
theorem gangwaylaw20_StatLengths.bbelow {W0 w w1 : World} {g : Nat} {o : Obj} (_b : Aside0 (W0.heap[g]? = some o)) (h : w.heap[g]? = some o) (hb : Below w.heap.size w w1) : w1.heap[g]? = some o := blk_below h hb
theorem gangwaylaw20_StatLengths.e1 {α : Type _} (xs : List α) (i : Nat) (a : α) : xs.toArray.setIfInBounds i a = (xs.set i a).toArray := by simp
theorem gangwaylaw20_StatLengths.e2 {α : Type _} (x a : α) (xs : List α) : (x :: xs).set 0 a = a :: xs := rfl
theorem gangwaylaw20_StatLengths.e3 {α : Type _} (x a : α) (xs : List α) (n : Nat) : (x :: xs).set (n + 1) a = x :: xs.set n a := rfl
theorem gangwaylaw20_StatLengths.up {w w' : World} {a : Addr} {v : Value} (hb : Aside0 (Below w.heap.size w w')) (h : w.cell? a = some v) : w'.cell? a = some v := (hb.out.cell (World.block_lt_of_cell? w _ h)).trans h
mutual
def gangwaylaw20_StatLengths.j11 : Nat → Option (Bool)
 | 0 => none
 | k + 1 => (gangwaylaw20_wakes.f k).bind fun t562 => (some t562)
def gangwaylaw20_StatLengths.l0 : Nat → List (S35) → Int → Option (Bool)
 | 0, _, _ => none
 | k + 1, x0, x3 => if x3 < (x0.length : Int) then (gangwaylaw20_StatLengths.j1 k x0 x3 (decide (x3 < 20))) else (gangwaylaw20_StatLengths.j1 k x0 x3 false)
def gangwaylaw20_StatLengths.j1 : Nat → List (S35) → Int → Bool → Option (Bool)
 | 0, _, _, _ => none
 | k + 1, x0, x3, x14 => if x14 = true then (gangwaylaw20_StatLengths.j2 k x0 x3) else (gangwaylaw20_StatLengths.j11 k)
def gangwaylaw20_StatLengths.j2 : Nat → List (S35) → Int → Option (Bool)
 | 0, _, _ => none
 | k + 1, x0, x3 => if 0 ≤ x3 then (if x3 < (x0.length : Int) then ((gangwaylaw20_heavy.f ((rd_T35 x0 x3).f0.f0) ((rd_T35 x0 x3).f0.f1) ((rd_T35 x0 x3).f0.f2) ((rd_T35 x0 x3).f0.f3) ((rd_T35 x0 x3).f0.f4) ((rd_T35 x0 x3).f0.f5) ((rd_T35 x0 x3).f0.f6) ((rd_T35 x0 x3).f1.f0) ((rd_T35 x0 x3).f1.f1) ((rd_T35 x0 x3).f1.f2) ((rd_T35 x0 x3).f1.f3) ((rd_T35 x0 x3).f1.f4) ((rd_T35 x0 x3).f1.f5) ((rd_T35 x0 x3).f2) ((rd_T35 x0 x3).f3) ((rd_T35 x0 x3).f4) ((rd_T35 x0 x3).f5) ((rd_T35 x0 x3).f6) ((rd_T35 x0 x3).f7.f0) ((rd_T35 x0 x3).f7.f1) ((rd_T35 x0 x3).f7.f2) ((rd_T35 x0 x3).f7.f3) ((rd_T35 x0 x3).f8)).bind fun t522 => (if t522 = true then (some true) else (gangwaylaw20_StatLengths.j3 k x0 x3 ((rd_T35 x0 x3).f0.f0) ((rd_T35 x0 x3).f0.f1) ((rd_T35 x0 x3).f0.f2) ((rd_T35 x0 x3).f0.f3) ((rd_T35 x0 x3).f0.f4) ((rd_T35 x0 x3).f0.f5) ((rd_T35 x0 x3).f0.f6) ((rd_T35 x0 x3).f1.f0) ((rd_T35 x0 x3).f1.f1) ((rd_T35 x0 x3).f1.f2) ((rd_T35 x0 x3).f1.f3) ((rd_T35 x0 x3).f1.f4) ((rd_T35 x0 x3).f1.f5) ((rd_T35 x0 x3).f2) ((rd_T35 x0 x3).f3) ((rd_T35 x0 x3).f4) ((rd_T35 x0 x3).f5) ((rd_T35 x0 x3).f6) ((rd_T35 x0 x3).f7.f0) ((rd_T35 x0 x3).f7.f1) ((rd_T35 x0 x3).f7.f2) ((rd_T35 x0 x3).f7.f3) ((rd_T35 x0 x3).f8)))) else (none)) else (none)
def gangwaylaw20_StatLengths.j3 : Nat → List (S35) → Int → Int → Int → Int → Int → Int → Int → ByteArray → Int → List Int → List (S93) → ByteArray → Int → Int → Int → ByteArray → Int → Int → Int → Int → Int → Int → Int → List Int → Option (Bool)
 | 0, _, _, _, _, _, _, _, _, _, _, _, _, _, _, _, _, _, _, _, _, _, _, _, _, _ => none
 | k + 1, x0, x3, x522000, x522001, x522002, x522003, x522004, x522005, x522006, x522007, x522008, x522009, x522010, x522011, x522012, x522013, x522014, x522015, x522016, x522017, x522018, x522019, x522020, x522021, x522022 => (stat_Fdstat.f k x522000 x522001 x522002 x522003 x522004 x522005 x522006).bind fun bt523 => ((gangwaylaw20_num.f bt523.2).bind fun t527 => (if t527 = 0 then (gangwaylaw20_StatLengths.j4 k x0 x3 ((bt523.1.length : Int) != 24) x522000 x522001 x522002 x522003 x522004 x522005 x522006 x522007 x522008 x522009 x522010 x522011 x522012 x522013 x522014 x522015 x522016 x522017 x522018 x522019 x522020 x522021 x522022) else (gangwaylaw20_StatLengths.j4 k x0 x3 false x522000 x522001 x522002 x522003 x522004 x522005 x522006 x522007 x522008 x522009 x522010 x522011 x522012 x522013 x522014 x522015 x522016 x522017 x522018 x522019 x522020 x522021 x522022)))
def gangwaylaw20_StatLengths.j4 : Nat → List (S35) → Int → Bool → Int → Int → Int → Int → Int → Int → ByteArray → Int → List Int → List (S93) → ByteArray → Int → Int → Int → ByteArray → Int → Int → Int → Int → Int → Int → Int → List Int → Option (Bool)
 | 0, _, _, _, _, _, _, _, _, _, _, _, _, _, _, _, _, _, _, _, _, _, _, _, _, _, _ => none
 | k + 1, x0, x3, x36, x522000, x522001, x522002, x522003, x522004, x522005, x522006, x522007, x522008, x522009, x522010, x522011, x522012, x522013, x522014, x522015, x522016, x522017, x522018, x522019, x522020, x522021, x522022 => if x36 = true then (none) else (gangwaylaw20_StatLengths.j5 k x0 x3 x522000 x522001 x522002 x522003 x522004 x522005 x522006 x522007 x522008 x522009 x522010 x522011 x522012 x522013 x522014 x522015 x522016 x522017 x522018 x522019 x522020 x522021 x522022)
def gangwaylaw20_StatLengths.j5 : Nat → List (S35) → Int → Int → Int → Int → Int → Int → Int → ByteArray → Int → List Int → List (S93) → ByteArray → Int → Int → Int → ByteArray → Int → Int → Int → Int → Int → Int → Int → List Int → Option (Bool)
 | 0, _, _, _, _, _, _, _, _, _, _, _, _, _, _, _, _, _, _, _, _, _, _, _, _, _ => none
 | k + 1, x0, x3, x522000, x522001, x522002, x522003, x522004, x522005, x522006, x522007, x522008, x522009, x522010, x522011, x522012, x522013, x522014, x522015, x522016, x522017, x522018, x522019, x522020, x522021, x522022 => (stat_Filestat.f k x522007 x522008 x522009 x522010 x522011 x522012 x522013).bind fun bt528 => ((gangwaylaw20_num.f bt528.2).bind fun t532 => (if t532 = 0 then (if (bt528.1.length : Int) = 64 then (if x522007 = 1 then (if 32 < (bt528.1.length : Int) then (if 33 < (bt528.1.length : Int) then (gangwaylaw20_StatLengths.j6 k x0 x3 ((wrap64 ((wrap64 (rd bt528.1 32)) + (wrap64 ((wrap64 (rd bt528.1 33)) * 256)))) != (x522008.length : Int)) x522000 x522001 x522002 x522003 x522004 x522005 x522006 x522007 x522008 x522009 x522010 x522011 x522012 x522013 x522014 x522015 x522016 x522017 x522018 x522019 x522020 x522021 x522022) else (none)) else (none)) else (gangwaylaw20_StatLengths.j6 k x0 x3 false x522000 x522001 x522002 x522003 x522004 x522005 x522006 x522007 x522008 x522009 x522010 x522011 x522012 x522013 x522014 x522015 x522016 x522017 x522018 x522019 x522020 x522021 x522022)) else (gangwaylaw20_StatLengths.j6 k x0 x3 true x522000 x522001 x522002 x522003 x522004 x522005 x522006 x522007 x522008 x522009 x522010 x522011 x522012 x522013 x522014 x522015 x522016 x522017 x522018 x522019 x522020 x522021 x522022)) else (gangwaylaw20_StatLengths.j6 k x0 x3 false x522000 x522001 x522002 x522003 x522004 x522005 x522006 x522007 x522008 x522009 x522010 x522011 x522012 x522013 x522014 x522015 x522016 x522017 x522018 x522019 x522020 x522021 x522022)))
def gangwaylaw20_StatLengths.j6 : Nat → List (S35) → Int → Bool → Int → Int → Int → Int → Int → Int → ByteArray → Int → List Int → List (S93) → ByteArray → Int → Int → Int → ByteArray → Int → Int → Int → Int → Int → Int → Int → List Int → Option (Bool)
 | 0, _, _, _, _, _, _, _, _, _, _, _, _, _, _, _, _, _, _, _, _, _, _, _, _, _, _ => none
 | k + 1, x0, x3, x75, x522000, x522001, x522002, x522003, x522004, x522005, x522006, x522007, x522008, x522009, x522010, x522011, x522012, x522013, x522014, x522015, x522016, x522017, x522018, x522019, x522020, x522021, x522022 => if x75 = true then (none) else (gangwaylaw20_StatLengths.j7 k x0 x3 x522000 x522001 x522002 x522003 x522004 x522005 x522006 x522007 x522008 x522009 x522010 x522011 x522012 x522013 x522014 x522015 x522016 x522017 x522018 x522019 x522020 x522021 x522022)
def gangwaylaw20_StatLengths.j7 : Nat → List (S35) → Int → Int → Int → Int → Int → Int → Int → ByteArray → Int → List Int → List (S93) → ByteArray → Int → Int → Int → ByteArray → Int → Int → Int → Int → Int → Int → Int → List Int → Option (Bool)
 | 0, _, _, _, _, _, _, _, _, _, _, _, _, _, _, _, _, _, _, _, _, _, _, _, _, _ => none
 | k + 1, x0, x3, x522000, x522001, x522002, x522003, x522004, x522005, x522006, x522007, x522008, x522009, x522010, x522011, x522012, x522013, x522014, x522015, x522016, x522017, x522018, x522019, x522020, x522021, x522022 => (stat_Dirent.f k x522015 x522016 x522014 x522017).bind fun bt535 => ((gangwaylaw20_num.f bt535.2).bind fun t539 => (if t539 = 0 then (if (bt535.1.length : Int) = (wrap64 (24 + (x522014.size : Int))) then (if 24 ≤ (bt535.1.length : Int) then (gangwaylaw20_StatLengths.j8 k x0 x3 ((strOfNums (bt535.1.drop 24)).toList != x522014.toList) x522000 x522001 x522002 x522003 x522004 x522005 x522006 x522007 x522008 x522009 x522010 x522011 x522012 x522013 x522014 x522015 x522016 x522017 x522018 x522019 x522020 x522021 x522022) else (none)) else (gangwaylaw20_StatLengths.j8 k x0 x3 true x522000 x522001 x522002 x522003 x522004 x522005 x522006 x522007 x522008 x522009 x522010 x522011 x522012 x522013 x522014 x522015 x522016 x522017 x522018 x522019 x522020 x522021 x522022)) else (gangwaylaw20_StatLengths.j8 k x0 x3 false x522000 x522001 x522002 x522003 x522004 x522005 x522006 x522007 x522008 x522009 x522010 x522011 x522012 x522013 x522014 x522015 x522016 x522017 x522018 x522019 x522020 x522021 x522022)))
def gangwaylaw20_StatLengths.j8 : Nat → List (S35) → Int → Bool → Int → Int → Int → Int → Int → Int → ByteArray → Int → List Int → List (S93) → ByteArray → Int → Int → Int → ByteArray → Int → Int → Int → Int → Int → Int → Int → List Int → Option (Bool)
 | 0, _, _, _, _, _, _, _, _, _, _, _, _, _, _, _, _, _, _, _, _, _, _, _, _, _, _ => none
 | k + 1, x0, x3, x107, x522000, x522001, x522002, x522003, x522004, x522005, x522006, x522007, x522008, x522009, x522010, x522011, x522012, x522013, x522014, x522015, x522016, x522017, x522018, x522019, x522020, x522021, x522022 => if x107 = true then (none) else (gangwaylaw20_StatLengths.j9 k x0 x3 x522000 x522001 x522002 x522003 x522004 x522005 x522006 x522007 x522008 x522009 x522010 x522011 x522012 x522013 x522014 x522015 x522016 x522017 x522018 x522019 x522020 x522021 x522022)
def gangwaylaw20_StatLengths.j9 : Nat → List (S35) → Int → Int → Int → Int → Int → Int → Int → ByteArray → Int → List Int → List (S93) → ByteArray → Int → Int → Int → ByteArray → Int → Int → Int → Int → Int → Int → Int → List Int → Option (Bool)
 | 0, _, _, _, _, _, _, _, _, _, _, _, _, _, _, _, _, _, _, _, _, _, _, _, _, _ => none
 | k + 1, x0, x3, x522000, x522001, x522002, x522003, x522004, x522005, x522006, x522007, x522008, x522009, x522010, x522011, x522012, x522013, x522014, x522015, x522016, x522017, x522018, x522019, x522020, x522021, x522022 => (stat_Event.f k x522018 x522019 x522020 x522021).bind fun bt544 => ((gangwaylaw20_num.f bt544.2).bind fun t548 => (if t548 = 0 then (if (bt544.1.length : Int) = 32 then (if 10 < (bt544.1.length : Int) then (if (wrap64 (rd bt544.1 10)) = x522020 then ((stat_Stream.f k).bind fun t550 => (if (t550.length : Int) = 64 then ((stat_Prestat.f k x522014).bind fun t553 => (gangwaylaw20_StatLengths.j10 k x0 x3 ((t553.length : Int) != 8))) else (none))) else (none)) else (none)) else (none)) else ((stat_Stream.f k).bind fun t556 => (if (t556.length : Int) = 64 then ((stat_Prestat.f k x522014).bind fun t559 => (gangwaylaw20_StatLengths.j10 k x0 x3 ((t559.length : Int) != 8))) else (none)))))
def gangwaylaw20_StatLengths.j10 : Nat → List (S35) → Int → Bool → Option (Bool)
 | 0, _, _, _ => none
 | k + 1, x0, x3, x143 => if x143 = true then (none) else (gangwaylaw20_StatLengths.l0 k x0 (wrap64 (x3 + 1)))
end
def gangwaylaw20_StatLengths.f (k : Nat) (l0 : List (S35)) : Option (Bool) := gangwaylaw20_StatLengths.l0 k l0 0
theorem gangwaylaw20_StatLengths.mono_l : ∀ k, (LeO (gangwaylaw20_StatLengths.j11 k ) (gangwaylaw20_StatLengths.j11 (k + 1) )) ∧ (∀ y0 y1, LeO (gangwaylaw20_StatLengths.l0 k y0 y1) (gangwaylaw20_StatLengths.l0 (k + 1) y0 y1)) ∧ (∀ y0 y1 y2, LeO (gangwaylaw20_StatLengths.j1 k y0 y1 y2) (gangwaylaw20_StatLengths.j1 (k + 1) y0 y1 y2)) ∧ (∀ y0 y1, LeO (gangwaylaw20_StatLengths.j2 k y0 y1) (gangwaylaw20_StatLengths.j2 (k + 1) y0 y1)) ∧ (∀ y0 y1 y2 y3 y4 y5 y6 y7 y8 y9 y10 y11 y12 y13 y14 y15 y16 y17 y18 y19 y20 y21 y22 y23 y24, LeO (gangwaylaw20_StatLengths.j3 k y0 y1 y2 y3 y4 y5 y6 y7 y8 y9 y10 y11 y12 y13 y14 y15 y16 y17 y18 y19 y20 y21 y22 y23 y24) (gangwaylaw20_StatLengths.j3 (k + 1) y0 y1 y2 y3 y4 y5 y6 y7 y8 y9 y10 y11 y12 y13 y14 y15 y16 y17 y18 y19 y20 y21 y22 y23 y24)) ∧ (∀ y0 y1 y2 y3 y4 y5 y6 y7 y8 y9 y10 y11 y12 y13 y14 y15 y16 y17 y18 y19 y20 y21 y22 y23 y24 y25, LeO (gangwaylaw20_StatLengths.j4 k y0 y1 y2 y3 y4 y5 y6 y7 y8 y9 y10 y11 y12 y13 y14 y15 y16 y17 y18 y19 y20 y21 y22 y23 y24 y25) (gangwaylaw20_StatLengths.j4 (k + 1) y0 y1 y2 y3 y4 y5 y6 y7 y8 y9 y10 y11 y12 y13 y14 y15 y16 y17 y18 y19 y20 y21 y22 y23 y24 y25)) ∧ (∀ y0 y1 y2 y3 y4 y5 y6 y7 y8 y9 y10 y11 y12 y13 y14 y15 y16 y17 y18 y19 y20 y21 y22 y23 y24, LeO (gangwaylaw20_StatLengths.j5 k y0 y1 y2 y3 y4 y5 y6 y7 y8 y9 y10 y11 y12 y13 y14 y15 y16 y17 y18 y19 y20 y21 y22 y23 y24) (gangwaylaw20_StatLengths.j5 (k + 1) y0 y1 y2 y3 y4 y5 y6 y7 y8 y9 y10 y11 y12 y13 y14 y15 y16 y17 y18 y19 y20 y21 y22 y23 y24)) ∧ (∀ y0 y1 y2 y3 y4 y5 y6 y7 y8 y9 y10 y11 y12 y13 y14 y15 y16 y17 y18 y19 y20 y21 y22 y23 y24 y25, LeO (gangwaylaw20_StatLengths.j6 k y0 y1 y2 y3 y4 y5 y6 y7 y8 y9 y10 y11 y12 y13 y14 y15 y16 y17 y18 y19 y20 y21 y22 y23 y24 y25) (gangwaylaw20_StatLengths.j6 (k + 1) y0 y1 y2 y3 y4 y5 y6 y7 y8 y9 y10 y11 y12 y13 y14 y15 y16 y17 y18 y19 y20 y21 y22 y23 y24 y25)) ∧ (∀ y0 y1 y2 y3 y4 y5 y6 y7 y8 y9 y10 y11 y12 y13 y14 y15 y16 y17 y18 y19 y20 y21 y22 y23 y24, LeO (gangwaylaw20_StatLengths.j7 k y0 y1 y2 y3 y4 y5 y6 y7 y8 y9 y10 y11 y12 y13 y14 y15 y16 y17 y18 y19 y20 y21 y22 y23 y24) (gangwaylaw20_StatLengths.j7 (k + 1) y0 y1 y2 y3 y4 y5 y6 y7 y8 y9 y10 y11 y12 y13 y14 y15 y16 y17 y18 y19 y20 y21 y22 y23 y24)) ∧ (∀ y0 y1 y2 y3 y4 y5 y6 y7 y8 y9 y10 y11 y12 y13 y14 y15 y16 y17 y18 y19 y20 y21 y22 y23 y24 y25, LeO (gangwaylaw20_StatLengths.j8 k y0 y1 y2 y3 y4 y5 y6 y7 y8 y9 y10 y11 y12 y13 y14 y15 y16 y17 y18 y19 y20 y21 y22 y23 y24 y25) (gangwaylaw20_StatLengths.j8 (k + 1) y0 y1 y2 y3 y4 y5 y6 y7 y8 y9 y10 y11 y12 y13 y14 y15 y16 y17 y18 y19 y20 y21 y22 y23 y24 y25)) ∧ (∀ y0 y1 y2 y3 y4 y5 y6 y7 y8 y9 y10 y11 y12 y13 y14 y15 y16 y17 y18 y19 y20 y21 y22 y23 y24, LeO (gangwaylaw20_StatLengths.j9 k y0 y1 y2 y3 y4 y5 y6 y7 y8 y9 y10 y11 y12 y13 y14 y15 y16 y17 y18 y19 y20 y21 y22 y23 y24) (gangwaylaw20_StatLengths.j9 (k + 1) y0 y1 y2 y3 y4 y5 y6 y7 y8 y9 y10 y11 y12 y13 y14 y15 y16 y17 y18 y19 y20 y21 y22 y23 y24)) ∧ (∀ y0 y1 y2, LeO (gangwaylaw20_StatLengths.j10 k y0 y1 y2) (gangwaylaw20_StatLengths.j10 (k + 1) y0 y1 y2))
 | 0 => ⟨fun r h => by simp [gangwaylaw20_StatLengths.j11] at h, fun _ _ r h => by simp [gangwaylaw20_StatLengths.l0] at h, fun _ _ _ r h => by simp [gangwaylaw20_StatLengths.j1] at h, fun _ _ r h => by simp [gangwaylaw20_StatLengths.j2] at h, fun _ _ _ _ _ _ _ _ _ _ _ _ _ _ _ _ _ _ _ _ _ _ _ _ _ r h => by simp [gangwaylaw20_StatLengths.j3] at h, fun _ _ _ _ _ _ _ _ _ _ _ _ _ _ _ _ _ _ _ _ _ _ _ _ _ _ r h => by simp [gangwaylaw20_StatLengths.j4] at h, fun _ _ _ _ _ _ _ _ _ _ _ _ _ _ _ _ _ _ _ _ _ _ _ _ _ r h => by simp [gangwaylaw20_StatLengths.j5] at h, fun _ _ _ _ _ _ _ _ _ _ _ _ _ _ _ _ _ _ _ _ _ _ _ _ _ _ r h => by simp [gangwaylaw20_StatLengths.j6] at h, fun _ _ _ _ _ _ _ _ _ _ _ _ _ _ _ _ _ _ _ _ _ _ _ _ _ r h => by simp [gangwaylaw20_StatLengths.j7] at h, fun _ _ _ _ _ _ _ _ _ _ _ _ _ _ _ _ _ _ _ _ _ _ _ _ _ _ r h => by simp [gangwaylaw20_StatLengths.j8] at h, fun _ _ _ _ _ _ _ _ _ _ _ _ _ _ _ _ _ _ _ _ _ _ _ _ _ r h => by simp [gangwaylaw20_StatLengths.j9] at h, fun _ _ _ r h => by simp [gangwaylaw20_StatLengths.j10] at h⟩
 | k + 1 => by
  obtain ⟨ih0, ih1, ih2, ih3, ih4, ih5, ih6, ih7, ih8, ih9, ih10, ih11⟩ := gangwaylaw20_StatLengths.mono_l k
  refine ⟨?_, ?_, ?_, ?_, ?_, ?_, ?_, ?_, ?_, ?_, ?_, ?_⟩
  ·skip
   unfold gangwaylaw20_StatLengths.j11
   repeat' first
   | (with_reducible exact ih0)
   | (with_reducible apply ih1)
   | (with_reducible apply ih2)
   | (with_reducible apply ih3)
   | (with_reducible apply ih4)
   | (with_reducible apply ih5)
   | (with_reducible apply ih6)
   | (with_reducible apply ih7)
   | (with_reducible apply ih8)
   | (with_reducible apply ih9)
   | (with_reducible apply ih10)
   | (with_reducible apply ih11)
   | (with_reducible exact gangwaylaw20_wakes.mono _)
   | (with_reducible exact stat_Dirent.mono _ _ _ _ _)
   | (with_reducible exact stat_Event.mono _ _ _ _ _)
   | (with_reducible exact stat_Fdstat.mono _ _ _ _ _ _ _ _)
   | (with_reducible exact stat_Filestat.mono _ _ _ _ _ _ _ _)
   | (with_reducible exact stat_Prestat.mono _ _)
   | (with_reducible exact stat_Stream.mono _)
   | (with_reducible exact LeO.refl _)
   | (with_reducible exact LeO.none _)
   | (with_reducible refine LeO.ite ?_ ?_)
   | (with_reducible refine LeO.bind ?_ (fun _ => ?_))
   | exact ih0
   | apply ih1
   | apply ih2
   | apply ih3
   | apply ih4
   | apply ih5
   | apply ih6
   | apply ih7
   | apply ih8
   | apply ih9
   | apply ih10
   | apply ih11
   | exact gangwaylaw20_wakes.mono _
   | exact stat_Dirent.mono _ _ _ _ _
   | exact stat_Event.mono _ _ _ _ _
   | exact stat_Fdstat.mono _ _ _ _ _ _ _ _
   | exact stat_Filestat.mono _ _ _ _ _ _ _ _
   | exact stat_Prestat.mono _ _
   | exact stat_Stream.mono _
   | exact LeO.none _
   | refine LeO.ite ?_ ?_
   | refine LeO.bind ?_ (fun _ => ?_)
  ·intro y0 y1
   unfold gangwaylaw20_StatLengths.l0
   repeat' first
   | (with_reducible exact ih0)
   | (with_reducible apply ih1)
   | (with_reducible apply ih2)
   | (with_reducible apply ih3)
   | (with_reducible apply ih4)
   | (with_reducible apply ih5)
   | (with_reducible apply ih6)
   | (with_reducible apply ih7)
   | (with_reducible apply ih8)
   | (with_reducible apply ih9)
   | (with_reducible apply ih10)
   | (with_reducible apply ih11)
   | (with_reducible exact gangwaylaw20_wakes.mono _)
   | (with_reducible exact stat_Dirent.mono _ _ _ _ _)
   | (with_reducible exact stat_Event.mono _ _ _ _ _)
   | (with_reducible exact stat_Fdstat.mono _ _ _ _ _ _ _ _)
   | (with_reducible exact stat_Filestat.mono _ _ _ _ _ _ _ _)
   | (with_reducible exact stat_Prestat.mono _ _)
   | (with_reducible exact stat_Stream.mono _)
   | (with_reducible exact LeO.refl _)
   | (with_reducible exact LeO.none _)
   | (with_reducible refine LeO.ite ?_ ?_)
   | (with_reducible refine LeO.bind ?_ (fun _ => ?_))
   | exact ih0
   | apply ih1
   | apply ih2
   | apply ih3
   | apply ih4
   | apply ih5
   | apply ih6
   | apply ih7
   | apply ih8
   | apply ih9
   | apply ih10
   | apply ih11
   | exact gangwaylaw20_wakes.mono _
   | exact stat_Dirent.mono _ _ _ _ _
   | exact stat_Event.mono _ _ _ _ _
   | exact stat_Fdstat.mono _ _ _ _ _ _ _ _
   | exact stat_Filestat.mono _ _ _ _ _ _ _ _
   | exact stat_Prestat.mono _ _
   | exact stat_Stream.mono _
   | exact LeO.none _
   | refine LeO.ite ?_ ?_
   | refine LeO.bind ?_ (fun _ => ?_)
  ·intro y0 y1 y2
   unfold gangwaylaw20_StatLengths.j1
   repeat' first
   | (with_reducible exact ih0)
   | (with_reducible apply ih1)
   | (with_reducible apply ih2)
   | (with_reducible apply ih3)
   | (with_reducible apply ih4)
   | (with_reducible apply ih5)
   | (with_reducible apply ih6)
   | (with_reducible apply ih7)
   | (with_reducible apply ih8)
   | (with_reducible apply ih9)
   | (with_reducible apply ih10)
   | (with_reducible apply ih11)
   | (with_reducible exact gangwaylaw20_wakes.mono _)
   | (with_reducible exact stat_Dirent.mono _ _ _ _ _)
   | (with_reducible exact stat_Event.mono _ _ _ _ _)
   | (with_reducible exact stat_Fdstat.mono _ _ _ _ _ _ _ _)
   | (with_reducible exact stat_Filestat.mono _ _ _ _ _ _ _ _)
   | (with_reducible exact stat_Prestat.mono _ _)
   | (with_reducible exact stat_Stream.mono _)
   | (with_reducible exact LeO.refl _)
   | (with_reducible exact LeO.none _)
   | (with_reducible refine LeO.ite ?_ ?_)
   | (with_reducible refine LeO.bind ?_ (fun _ => ?_))
   | exact ih0
   | apply ih1
   | apply ih2
   | apply ih3
   | apply ih4
   | apply ih5
   | apply ih6
   | apply ih7
   | apply ih8
   | apply ih9
   | apply ih10
   | apply ih11
   | exact gangwaylaw20_wakes.mono _
   | exact stat_Dirent.mono _ _ _ _ _
   | exact stat_Event.mono _ _ _ _ _
   | exact stat_Fdstat.mono _ _ _ _ _ _ _ _
   | exact stat_Filestat.mono _ _ _ _ _ _ _ _
   | exact stat_Prestat.mono _ _
   | exact stat_Stream.mono _
   | exact LeO.none _
   | refine LeO.ite ?_ ?_
   | refine LeO.bind ?_ (fun _ => ?_)
  ·intro y0 y1
   unfold gangwaylaw20_StatLengths.j2
   repeat' first
   | (with_reducible exact ih0)
   | (with_reducible apply ih1)
   | (with_reducible apply ih2)
   | (with_reducible apply ih3)
   | (with_reducible apply ih4)
   | (with_reducible apply ih5)
   | (with_reducible apply ih6)
   | (with_reducible apply ih7)
   | (with_reducible apply ih8)
   | (with_reducible apply ih9)
   | (with_reducible apply ih10)
   | (with_reducible apply ih11)
   | (with_reducible exact gangwaylaw20_wakes.mono _)
   | (with_reducible exact stat_Dirent.mono _ _ _ _ _)
   | (with_reducible exact stat_Event.mono _ _ _ _ _)
   | (with_reducible exact stat_Fdstat.mono _ _ _ _ _ _ _ _)
   | (with_reducible exact stat_Filestat.mono _ _ _ _ _ _ _ _)
   | (with_reducible exact stat_Prestat.mono _ _)
   | (with_reducible exact stat_Stream.mono _)
   | (with_reducible exact LeO.refl _)
   | (with_reducible exact LeO.none _)
   | (with_reducible refine LeO.ite ?_ ?_)
   | (with_reducible refine LeO.bind ?_ (fun _ => ?_))
   | exact ih0
   | apply ih1
   | apply ih2
   | apply ih3
   | apply ih4
   | apply ih5
   | apply ih6
   | apply ih7
   | apply ih8
   | apply ih9
   | apply ih10
   | apply ih11
   | exact gangwaylaw20_wakes.mono _
   | exact stat_Dirent.mono _ _ _ _ _
   | exact stat_Event.mono _ _ _ _ _
   | exact stat_Fdstat.mono _ _ _ _ _ _ _ _
   | exact stat_Filestat.mono _ _ _ _ _ _ _ _
   | exact stat_Prestat.mono _ _
   | exact stat_Stream.mono _
   | exact LeO.none _
   | refine LeO.ite ?_ ?_
   | refine LeO.bind ?_ (fun _ => ?_)
  ·intro y0 y1 y2 y3 y4 y5 y6 y7 y8 y9 y10 y11 y12 y13 y14 y15 y16 y17 y18 y19 y20 y21 y22 y23 y24
   unfold gangwaylaw20_StatLengths.j3
   repeat' first
   | (with_reducible exact ih0)
   | (with_reducible apply ih1)
   | (with_reducible apply ih2)
   | (with_reducible apply ih3)
   | (with_reducible apply ih4)
   | (with_reducible apply ih5)
   | (with_reducible apply ih6)
   | (with_reducible apply ih7)
   | (with_reducible apply ih8)
   | (with_reducible apply ih9)
   | (with_reducible apply ih10)
   | (with_reducible apply ih11)
   | (with_reducible exact gangwaylaw20_wakes.mono _)
   | (with_reducible exact stat_Dirent.mono _ _ _ _ _)
   | (with_reducible exact stat_Event.mono _ _ _ _ _)
   | (with_reducible exact stat_Fdstat.mono _ _ _ _ _ _ _ _)
   | (with_reducible exact stat_Filestat.mono _ _ _ _ _ _ _ _)
   | (with_reducible exact stat_Prestat.mono _ _)
   | (with_reducible exact stat_Stream.mono _)
   | (with_reducible exact LeO.refl _)
   | (with_reducible exact LeO.none _)
   | (with_reducible refine LeO.ite ?_ ?_)
   | (with_reducible refine LeO.bind ?_ (fun _ => ?_))
   | exact ih0
   | apply ih1
   | apply ih2
   | apply ih3
   | apply ih4
   | apply ih5
   | apply ih6
   | apply ih7
   | apply ih8
   | apply ih9
   | apply ih10
   | apply ih11
   | exact gangwaylaw20_wakes.mono _
   | exact stat_Dirent.mono _ _ _ _ _
   | exact stat_Event.mono _ _ _ _ _
   | exact stat_Fdstat.mono _ _ _ _ _ _ _ _
   | exact stat_Filestat.mono _ _ _ _ _ _ _ _
   | exact stat_Prestat.mono _ _
   | exact stat_Stream.mono _
   | exact LeO.none _
   | refine LeO.ite ?_ ?_
   | refine LeO.bind ?_ (fun _ => ?_)
  ·intro y0 y1 y2 y3 y4 y5 y6 y7 y8 y9 y10 y11 y12 y13 y14 y15 y16 y17 y18 y19 y20 y21 y22 y23 y24 y25
   unfold gangwaylaw20_StatLengths.j4
   repeat' first
   | (with_reducible exact ih0)
   | (with_reducible apply ih1)
   | (with_reducible apply ih2)
   | (with_reducible apply ih3)
   | (with_reducible apply ih4)
   | (with_reducible apply ih5)
   | (with_reducible apply ih6)
   | (with_reducible apply ih7)
   | (with_reducible apply ih8)
   | (with_reducible apply ih9)
   | (with_reducible apply ih10)
   | (with_reducible apply ih11)
   | (with_reducible exact gangwaylaw20_wakes.mono _)
   | (with_reducible exact stat_Dirent.mono _ _ _ _ _)
   | (with_reducible exact stat_Event.mono _ _ _ _ _)
   | (with_reducible exact stat_Fdstat.mono _ _ _ _ _ _ _ _)
   | (with_reducible exact stat_Filestat.mono _ _ _ _ _ _ _ _)
   | (with_reducible exact stat_Prestat.mono _ _)
   | (with_reducible exact stat_Stream.mono _)
   | (with_reducible exact LeO.refl _)
   | (with_reducible exact LeO.none _)
   | (with_reducible refine LeO.ite ?_ ?_)
   | (with_reducible refine LeO.bind ?_ (fun _ => ?_))
   | exact ih0
   | apply ih1
   | apply ih2
   | apply ih3
   | apply ih4
   | apply ih5
   | apply ih6
   | apply ih7
   | apply ih8
   | apply ih9
   | apply ih10
   | apply ih11
   | exact gangwaylaw20_wakes.mono _
   | exact stat_Dirent.mono _ _ _ _ _
   | exact stat_Event.mono _ _ _ _ _
   | exact stat_Fdstat.mono _ _ _ _ _ _ _ _
   | exact stat_Filestat.mono _ _ _ _ _ _ _ _
   | exact stat_Prestat.mono _ _
   | exact stat_Stream.mono _
   | exact LeO.none _
   | refine LeO.ite ?_ ?_
   | refine LeO.bind ?_ (fun _ => ?_)
  ·intro y0 y1 y2 y3 y4 y5 y6 y7 y8 y9 y10 y11 y12 y13 y14 y15 y16 y17 y18 y19 y20 y21 y22 y23 y24
   unfold gangwaylaw20_StatLengths.j5
   repeat' first
   | (with_reducible exact ih0)
   | (with_reducible apply ih1)
   | (with_reducible apply ih2)
   | (with_reducible apply ih3)
   | (with_reducible apply ih4)
   | (with_reducible apply ih5)
   | (with_reducible apply ih6)
   | (with_reducible apply ih7)
   | (with_reducible apply ih8)
   | (with_reducible apply ih9)
   | (with_reducible apply ih10)
   | (with_reducible apply ih11)
   | (with_reducible exact gangwaylaw20_wakes.mono _)
   | (with_reducible exact stat_Dirent.mono _ _ _ _ _)
   | (with_reducible exact stat_Event.mono _ _ _ _ _)
   | (with_reducible exact stat_Fdstat.mono _ _ _ _ _ _ _ _)
   | (with_reducible exact stat_Filestat.mono _ _ _ _ _ _ _ _)
   | (with_reducible exact stat_Prestat.mono _ _)
   | (with_reducible exact stat_Stream.mono _)
   | (with_reducible exact LeO.refl _)
   | (with_reducible exact LeO.none _)
   | (with_reducible refine LeO.ite ?_ ?_)
   | (with_reducible refine LeO.bind ?_ (fun _ => ?_))
   | exact ih0
   | apply ih1
   | apply ih2
   | apply ih3
   | apply ih4
   | apply ih5
   | apply ih6
   | apply ih7
   | apply ih8
   | apply ih9
   | apply ih10
   | apply ih11
   | exact gangwaylaw20_wakes.mono _
   | exact stat_Dirent.mono _ _ _ _ _
   | exact stat_Event.mono _ _ _ _ _
   | exact stat_Fdstat.mono _ _ _ _ _ _ _ _
   | exact stat_Filestat.mono _ _ _ _ _ _ _ _
   | exact stat_Prestat.mono _ _
   | exact stat_Stream.mono _
   | exact LeO.none _
   | refine LeO.ite ?_ ?_
   | refine LeO.bind ?_ (fun _ => ?_)
  ·intro y0 y1 y2 y3 y4 y5 y6 y7 y8 y9 y10 y11 y12 y13 y14 y15 y16 y17 y18 y19 y20 y21 y22 y23 y24 y25
   unfold gangwaylaw20_StatLengths.j6
   repeat' first
   | (with_reducible exact ih0)
   | (with_reducible apply ih1)
   | (with_reducible apply ih2)
   | (with_reducible apply ih3)
   | (with_reducible apply ih4)
   | (with_reducible apply ih5)
   | (with_reducible apply ih6)
   | (with_reducible apply ih7)
   | (with_reducible apply ih8)
   | (with_reducible apply ih9)
   | (with_reducible apply ih10)
   | (with_reducible apply ih11)
   | (with_reducible exact gangwaylaw20_wakes.mono _)
   | (with_reducible exact stat_Dirent.mono _ _ _ _ _)
   | (with_reducible exact stat_Event.mono _ _ _ _ _)
   | (with_reducible exact stat_Fdstat.mono _ _ _ _ _ _ _ _)
   | (with_reducible exact stat_Filestat.mono _ _ _ _ _ _ _ _)
   | (with_reducible exact stat_Prestat.mono _ _)
   | (with_reducible exact stat_Stream.mono _)
   | (with_reducible exact LeO.refl _)
   | (with_reducible exact LeO.none _)
   | (with_reducible refine LeO.ite ?_ ?_)
   | (with_reducible refine LeO.bind ?_ (fun _ => ?_))
   | exact ih0
   | apply ih1
   | apply ih2
   | apply ih3
   | apply ih4
   | apply ih5
   | apply ih6
   | apply ih7
   | apply ih8
   | apply ih9
   | apply ih10
   | apply ih11
   | exact gangwaylaw20_wakes.mono _
   | exact stat_Dirent.mono _ _ _ _ _
   | exact stat_Event.mono _ _ _ _ _
   | exact stat_Fdstat.mono _ _ _ _ _ _ _ _
   | exact stat_Filestat.mono _ _ _ _ _ _ _ _
   | exact stat_Prestat.mono _ _
   | exact stat_Stream.mono _
   | exact LeO.none _
   | refine LeO.ite ?_ ?_
   | refine LeO.bind ?_ (fun _ => ?_)
  ·intro y0 y1 y2 y3 y4 y5 y6 y7 y8 y9 y10 y11 y12 y13 y14 y15 y16 y17 y18 y19 y20 y21 y22 y23 y24
   unfold gangwaylaw20_StatLengths.j7
   repeat' first
   | (with_reducible exact ih0)
   | (with_reducible apply ih1)
   | (with_reducible apply ih2)
   | (with_reducible apply ih3)
   | (with_reducible apply ih4)
   | (with_reducible apply ih5)
   | (with_reducible apply ih6)
   | (with_reducible apply ih7)
   | (with_reducible apply ih8)
   | (with_reducible apply ih9)
   | (with_reducible apply ih10)
   | (with_reducible apply ih11)
   | (with_reducible exact gangwaylaw20_wakes.mono _)
   | (with_reducible exact stat_Dirent.mono _ _ _ _ _)
   | (with_reducible exact stat_Event.mono _ _ _ _ _)
   | (with_reducible exact stat_Fdstat.mono _ _ _ _ _ _ _ _)
   | (with_reducible exact stat_Filestat.mono _ _ _ _ _ _ _ _)
   | (with_reducible exact stat_Prestat.mono _ _)
   | (with_reducible exact stat_Stream.mono _)
   | (with_reducible exact LeO.refl _)
   | (with_reducible exact LeO.none _)
   | (with_reducible refine LeO.ite ?_ ?_)
   | (with_reducible refine LeO.bind ?_ (fun _ => ?_))
   | exact ih0
   | apply ih1
   | apply ih2
   | apply ih3
   | apply ih4
   | apply ih5
   | apply ih6
   | apply ih7
   | apply ih8
   | apply ih9
   | apply ih10
   | apply ih11
   | exact gangwaylaw20_wakes.mono _
   | exact stat_Dirent.mono _ _ _ _ _
   | exact stat_Event.mono _ _ _ _ _
   | exact stat_Fdstat.mono _ _ _ _ _ _ _ _
   | exact stat_Filestat.mono _ _ _ _ _ _ _ _
   | exact stat_Prestat.mono _ _
   | exact stat_Stream.mono _
   | exact LeO.none _
   | refine LeO.ite ?_ ?_
   | refine LeO.bind ?_ (fun _ => ?_)
  ·intro y0 y1 y2 y3 y4 y5 y6 y7 y8 y9 y10 y11 y12 y13 y14 y15 y16 y17 y18 y19 y20 y21 y22 y23 y24 y25
   unfold gangwaylaw20_StatLengths.j8
   repeat' first
   | (with_reducible exact ih0)
   | (with_reducible apply ih1)
   | (with_reducible apply ih2)
   | (with_reducible apply ih3)
   | (with_reducible apply ih4)
   | (with_reducible apply ih5)
   | (with_reducible apply ih6)
   | (with_reducible apply ih7)
   | (with_reducible apply ih8)
   | (with_reducible apply ih9)
   | (with_reducible apply ih10)
   | (with_reducible apply ih11)
   | (with_reducible exact gangwaylaw20_wakes.mono _)
   | (with_reducible exact stat_Dirent.mono _ _ _ _ _)
   | (with_reducible exact stat_Event.mono _ _ _ _ _)
   | (with_reducible exact stat_Fdstat.mono _ _ _ _ _ _ _ _)
   | (with_reducible exact stat_Filestat.mono _ _ _ _ _ _ _ _)
   | (with_reducible exact stat_Prestat.mono _ _)
   | (with_reducible exact stat_Stream.mono _)
   | (with_reducible exact LeO.refl _)
   | (with_reducible exact LeO.none _)
   | (with_reducible refine LeO.ite ?_ ?_)
   | (with_reducible refine LeO.bind ?_ (fun _ => ?_))
   | exact ih0
   | apply ih1
   | apply ih2
   | apply ih3
   | apply ih4
   | apply ih5
   | apply ih6
   | apply ih7
   | apply ih8
   | apply ih9
   | apply ih10
   | apply ih11
   | exact gangwaylaw20_wakes.mono _
   | exact stat_Dirent.mono _ _ _ _ _
   | exact stat_Event.mono _ _ _ _ _
   | exact stat_Fdstat.mono _ _ _ _ _ _ _ _
   | exact stat_Filestat.mono _ _ _ _ _ _ _ _
   | exact stat_Prestat.mono _ _
   | exact stat_Stream.mono _
   | exact LeO.none _
   | refine LeO.ite ?_ ?_
   | refine LeO.bind ?_ (fun _ => ?_)
  ·intro y0 y1 y2 y3 y4 y5 y6 y7 y8 y9 y10 y11 y12 y13 y14 y15 y16 y17 y18 y19 y20 y21 y22 y23 y24
   unfold gangwaylaw20_StatLengths.j9
   repeat' first
   | (with_reducible exact ih0)
   | (with_reducible apply ih1)
   | (with_reducible apply ih2)
   | (with_reducible apply ih3)
   | (with_reducible apply ih4)
   | (with_reducible apply ih5)
   | (with_reducible apply ih6)
   | (with_reducible apply ih7)
   | (with_reducible apply ih8)
   | (with_reducible apply ih9)
   | (with_reducible apply ih10)
   | (with_reducible apply ih11)
   | (with_reducible exact gangwaylaw20_wakes.mono _)
   | (with_reducible exact stat_Dirent.mono _ _ _ _ _)
   | (with_reducible exact stat_Event.mono _ _ _ _ _)
   | (with_reducible exact stat_Fdstat.mono _ _ _ _ _ _ _ _)
   | (with_reducible exact stat_Filestat.mono _ _ _ _ _ _ _ _)
   | (with_reducible exact stat_Prestat.mono _ _)
   | (with_reducible exact stat_Stream.mono _)
   | (with_reducible exact LeO.refl _)
   | (with_reducible exact LeO.none _)
   | (with_reducible refine LeO.ite ?_ ?_)
   | (with_reducible refine LeO.bind ?_ (fun _ => ?_))
   | exact ih0
   | apply ih1
   | apply ih2
   | apply ih3
   | apply ih4
   | apply ih5
   | apply ih6
   | apply ih7
   | apply ih8
   | apply ih9
   | apply ih10
   | apply ih11
   | exact gangwaylaw20_wakes.mono _
   | exact stat_Dirent.mono _ _ _ _ _
   | exact stat_Event.mono _ _ _ _ _
   | exact stat_Fdstat.mono _ _ _ _ _ _ _ _
   | exact stat_Filestat.mono _ _ _ _ _ _ _ _
   | exact stat_Prestat.mono _ _
   | exact stat_Stream.mono _
   | exact LeO.none _
   | refine LeO.ite ?_ ?_
   | refine LeO.bind ?_ (fun _ => ?_)
  ·intro y0 y1 y2
   unfold gangwaylaw20_StatLengths.j10
   repeat' first
   | (with_reducible exact ih0)
   | (with_reducible apply ih1)
   | (with_reducible apply ih2)
   | (with_reducible apply ih3)
   | (with_reducible apply ih4)
   | (with_reducible apply ih5)
   | (with_reducible apply ih6)
   | (with_reducible apply ih7)
   | (with_reducible apply ih8)
   | (with_reducible apply ih9)
   | (with_reducible apply ih10)
   | (with_reducible apply ih11)
   | (with_reducible exact gangwaylaw20_wakes.mono _)
   | (with_reducible exact stat_Dirent.mono _ _ _ _ _)
   | (with_reducible exact stat_Event.mono _ _ _ _ _)
   | (with_reducible exact stat_Fdstat.mono _ _ _ _ _ _ _ _)
   | (with_reducible exact stat_Filestat.mono _ _ _ _ _ _ _ _)
   | (with_reducible exact stat_Prestat.mono _ _)
   | (with_reducible exact stat_Stream.mono _)
   | (with_reducible exact LeO.refl _)
   | (with_reducible exact LeO.none _)
   | (with_reducible refine LeO.ite ?_ ?_)
   | (with_reducible refine LeO.bind ?_ (fun _ => ?_))
   | exact ih0
   | apply ih1
   | apply ih2
   | apply ih3
   | apply ih4
   | apply ih5
   | apply ih6
   | apply ih7
   | apply ih8
   | apply ih9
   | apply ih10
   | apply ih11
   | exact gangwaylaw20_wakes.mono _
   | exact stat_Dirent.mono _ _ _ _ _
   | exact stat_Event.mono _ _ _ _ _
   | exact stat_Fdstat.mono _ _ _ _ _ _ _ _
   | exact stat_Filestat.mono _ _ _ _ _ _ _ _
   | exact stat_Prestat.mono _ _
   | exact stat_Stream.mono _
   | exact LeO.none _
   | refine LeO.ite ?_ ?_
   | refine LeO.bind ?_ (fun _ => ?_)
theorem gangwaylaw20_StatLengths.mono : ∀ a0 k, LeO (gangwaylaw20_StatLengths.f k a0) (gangwaylaw20_StatLengths.f (k + 1) a0) := by
 intro a0 k
 obtain ⟨ih0, ih1, ih2, ih3, ih4, ih5, ih6, ih7, ih8, ih9, ih10, ih11⟩ := gangwaylaw20_StatLengths.mono_l k
 unfold gangwaylaw20_StatLengths.f
 repeat' first
   | (with_reducible exact ih0)
   | (with_reducible apply ih1)
   | (with_reducible apply ih2)
   | (with_reducible apply ih3)
   | (with_reducible apply ih4)
   | (with_reducible apply ih5)
   | (with_reducible apply ih6)
   | (with_reducible apply ih7)
   | (with_reducible apply ih8)
   | (with_reducible apply ih9)
   | (with_reducible apply ih10)
   | (with_reducible apply ih11)
   | (with_reducible exact gangwaylaw20_wakes.mono _)
   | (with_reducible exact stat_Dirent.mono _ _ _ _ _)
   | (with_reducible exact stat_Event.mono _ _ _ _ _)
   | (with_reducible exact stat_Fdstat.mono _ _ _ _ _ _ _ _)
   | (with_reducible exact stat_Filestat.mono _ _ _ _ _ _ _ _)
   | (with_reducible exact stat_Prestat.mono _ _)
   | (with_reducible exact stat_Stream.mono _)
   | (with_reducible exact LeO.refl _)
   | (with_reducible exact LeO.none _)
   | (with_reducible refine LeO.ite ?_ ?_)
   | (with_reducible refine LeO.bind ?_ (fun _ => ?_))
   | exact ih0
   | apply ih1
   | apply ih2
   | apply ih3
   | apply ih4
   | apply ih5
   | apply ih6
   | apply ih7
   | apply ih8
   | apply ih9
   | apply ih10
   | apply ih11
   | exact gangwaylaw20_wakes.mono _
   | exact stat_Dirent.mono _ _ _ _ _
   | exact stat_Event.mono _ _ _ _ _
   | exact stat_Fdstat.mono _ _ _ _ _ _ _ _
   | exact stat_Filestat.mono _ _ _ _ _ _ _ _
   | exact stat_Prestat.mono _ _
   | exact stat_Stream.mono _
   | exact LeO.none _
   | refine LeO.ite ?_ ?_
   | refine LeO.bind ?_ (fun _ => ?_)
def gangwaylaw20_StatLengths.T11 : Bool × List (List Nat × List Nat) := (true, [([], []), ([0], [0]), ([1], [1]), ([2, 1], [2]), ([3], [3]), ([4, 3], [3, 4]), ([5, 3], [3, 5]), ([6, 3, 3], [3, 6]), ([7], [7]), ([8, 7], [7, 8]), ([9, 7], [7, 9]), ([10, 7], [7, 10]), ([11, 7, 7], [7, 11]), ([12], [12]), ([13, 12], [12, 13]), ([14, 12], [12, 14]), ([15, 12], [12, 15]), ([12], [12]), ([17, 12], [12, 17]), ([18, 12], [12, 18]), ([19, 12], [12, 19]), ([20, 12], [12, 20]), ([16, 21, 12], [12, 16, 21]), ([12], [12]), ([23, 12], [12, 23]), ([24, 12], [12, 24]), ([25, 12], [12, 25]), ([22, 26, 12], [12, 22, 26]), ([12, 27, 7], [7, 12, 27]), ([7, 28, 3], [3, 7, 28]), ([3, 29], [3, 29])])
def gangwaylaw20_StatLengths.B11 : List Nat := [0, 1, 3, 7, 15, 31, 63, 127, 255, 511, 1023, 2047, 4095, 8191, 16383, 32767, 65535, 8191, 139263, 401407, 925695, 1974271, 4194303, 8191, 8396799, 25174015, 58728447, 134217727, 268435455, 536870911, 1073741823]
theorem gangwaylaw20_StatLengths.tab11 : rtab .any (opsOf Try.f9 11) = gangwaylaw20_StatLengths.T11 := by kernel_rfl
theorem gangwaylaw20_StatLengths.bits11 : waitsOk gangwaylaw20_StatLengths.T11.2 gangwaylaw20_StatLengths.B11 = true := by kernel_rfl
def gangwaylaw20_StatLengths.T14 : Bool × List (List Nat × List Nat) := (true, [([], []), ([0], [0]), ([1], [1]), ([2, 1], [2]), ([3], [3]), ([4, 3], [3, 4]), ([3], [3]), ([6, 3], [3, 6]), ([7, 3], [3, 7]), ([8, 3], [3, 8]), ([5, 9, 3], [3, 5, 9]), ([10, 3, 3], [3, 10]), ([11], [11]), ([12, 11], [11, 12]), ([13, 11], [11, 13]), ([11], [11]), ([15, 11], [11, 15]), ([14, 16, 11], [11, 14, 16]), ([11, 17, 3], [3, 11, 17]), ([3, 18], [3, 18])])
def gangwaylaw20_StatLengths.B14 : List Nat := [0, 1, 3, 7, 15, 31, 15, 79, 207, 463, 1023, 2047, 4095, 8191, 16383, 4095, 36863, 131071, 262143, 524287]
theorem gangwaylaw20_StatLengths.tab14 : rtab .any (opsOf Try.f9 14) = gangwaylaw20_StatLengths.T14 := by kernel_rfl
theorem gangwaylaw20_StatLengths.bits14 : waitsOk gangwaylaw20_StatLengths.T14.2 gangwaylaw20_StatLengths.B14 = true := by kernel_rfl
def gangwaylaw20_StatLengths.T17 : Bool × List (List Nat × List Nat) := (true, [([], []), ([0], [0]), ([1], [1]), ([2, 1], [2]), ([3], [3]), ([4, 3], [3, 4]), ([5, 3], [3, 5]), ([6, 3, 3], [3, 6]), ([7], [7]), ([8, 7], [7, 8]), ([9, 7], [7, 9]), ([10, 7], [7, 10]), ([7], [7]), ([12, 7], [7, 12]), ([13, 7], [7, 13]), ([11, 14, 7], [7, 11, 14]), ([7, 15, 3], [3, 7, 15]), ([3, 16], [3, 16]), ([17, 7], [17]), ([18, 18], [18]), ([19, 18], [18, 19]), ([20, 18], [18, 20]), ([18, 21], [18, 21]), ([22, 19], [22]), ([23], [23]), ([24, 23], [23, 24]), ([25, 23, 23], [23, 25]), ([26, 23], [23, 26]), ([27, 23], [23, 27]), ([23, 28], [23, 28])])
def gangwaylaw20_StatLengths.B17 : List Nat := [0, 1, 3, 7, 15, 31, 63, 127, 255, 511, 1023, 2047, 255, 4351, 12543, 32767, 65535, 131071, 262143, 524287, 1048575, 2097151, 4194303, 8388607, 16777215, 33554431, 67108863, 134217727, 268435455, 536870911]
theorem gangwaylaw20_StatLengths.tab17 : rtab .any (opsOf Try.f9 17) = gangwaylaw20_StatLengths.T17 := by kernel_rfl
theorem gangwaylaw20_StatLengths.bits17 : waitsOk gangwaylaw20_StatLengths.T17.2 gangwaylaw20_StatLengths.B17 = true := by kernel_rfl
set_option maxHeartbeats 8000000 in
set_option maxRecDepth 100000 in
theorem gangwaylaw20_StatLengths.calls (k : Nat) (A0 : Option Addr) (c0 : Nat) (l0 : List (S35)) (r : Bool) (w : World) (hr0 : Kd.C k35 w A0 l0.length l0) (hc0 : l0.length ≤ c0) (h : gangwaylaw20_StatLengths.f k l0 = some r) :
  Calls Try.prog 9 #[.slice A0 l0.length c0] w fun e w' => e = .returned (.bool r) ∧ Below w.heap.size w w' := by
 have hu35 := Try.underlying35
 have hu28 := Try.underlying28
 have hu31 := Try.underlying31
 have hu33 := Try.underlying33
 have HR0 := Aside0.mk hr0
 have HC0 := Aside0.mk hc0
 clear hr0 hc0
 have HB := Aside0.mk (Below.refl w.heap.size w)
 have H : (gangwaylaw20_StatLengths.l0 k l0 0) = some r := h
 clear h
 have HC2 := Aside0.mk H
 clear H
 go_enter Try.func9, Try.ntmps9
 go_upto_block 0 with (fail)
 go_cut [] (fun wc => ∃ (kq : Nat), Aside0 (j11 kq  = some r) ∧ Aside0 (kq ≤ k) ∧ Aside0 (Below w.heap.size w wc))
 case first =>
  have H := HC2.out
  clear HC2
  have H' := Aside0.mk H
  clear H
  go_wp2
  go_loopg [3] k (fun kq v3 w' => ∃ (x3_1 : Int), v3 = .int .i64 x3_1 ∧ Aside0 (gangwaylaw20_StatLengths.l0 kq l0 x3_1 = some r) ∧ Aside0 (kq ≤ k) ∧ Aside0 (Below w.heap.size w w'))
  case atStart => exact ⟨(0), (by first | rfl | (simp; done) | (simp [*]; done)), H', ⟨Nat.le_refl _⟩, ⟨by repeat (first | (with_reducible first | exact HB.out | apply below_alloc | apply pw_below_drewN | apply below_drew1) | exact HB.out)⟩⟩
  case round =>
  clear H'
  try clear p2
  obtain ⟨x3_1, rfl, HA, HK1, HB⟩ := hrel
  cases gk with
  | zero => exact absurd HA.out (by simp [gangwaylaw20_StatLengths.l0])
  | succ k1 =>
  have H := HA.out
  clear HA
  simp only [gangwaylaw20_StatLengths.l0] at H
  have HC3 := Aside0.mk H
  clear H
  go_upto_region 2 with (fail)
  go_cut [14] (fun v14 wc => ∃ (kq : Nat) (x14_2 : Bool), v14 = .bool x14_2 ∧ Aside0 (j1 kq l0 x3_1 x14_2 = some r) ∧ Aside0 (kq ≤ k1) ∧ Aside0 (Below w.heap.size w wc))
  case first =>
   have H := HC3.out
   clear HC3
   by_cases c4 : x3_1 < (l0.length : Int)
   ·rw [if_pos c4] at H
    have c4b0 : decide (x3_1 < (l0.length : Int)) = true := decide_eq_true c4
    clear c4
    (first | rw [c4b0] | (simp only [i64_w, i32_w]; rw [c4b0]) | skip)
    have H' := Aside0.mk H
    clear H
    go_wp2
    go_meet
    case rel => exact ⟨_, (decide (x3_1 < 20)), (by first | rfl | (simp; done) | (simp [*]; done)), H', ⟨by have := HK1.out; first | omega | exact Nat.le_refl _⟩, ⟨by repeat (first | (with_reducible first | exact HB.out | apply below_alloc | apply pw_below_drewN | apply below_drew1) | exact HB.out)⟩⟩
   rw [if_neg c4] at H
   have c4b0 : decide (x3_1 < (l0.length : Int)) = false := decide_eq_false c4
   clear c4
   (first | rw [c4b0] | (simp only [i64_w, i32_w]; rw [c4b0]) | skip)
   have H' := Aside0.mk H
   clear H
   go_wp2
   go_meet
   case rel => exact ⟨_, (false), (by first | rfl | (simp; done) | (simp [*]; done)), H', ⟨by have := HK1.out; first | omega | exact Nat.le_refl _⟩, ⟨by repeat (first | (with_reducible first | exact HB.out | apply below_alloc | apply pw_below_drewN | apply below_drew1) | exact HB.out)⟩⟩
  case rest =>
  as_aux_lemma =>
  clear HC3
  try clear p2
  try clear c4
  try clear c4b0
  try clear p2
  obtain ⟨kq, x14_2, rfl, HA, HJ2, HB⟩ := hcut
  cases kq with
  | zero => exact absurd HA.out (by simp [j1])
  | succ kj2 =>
  have H := HA.out
  clear HA
  simp only [j1] at H
  have HC5 := Aside0.mk H
  clear H
  go_upto_if 14 with (fail)
  go_cut [] (fun wc => ∃ (kq : Nat), Aside0 (j2 kq l0 x3_1 = some r) ∧ Aside0 (kq ≤ kj2) ∧ Aside0 (Below w.heap.size w wc))
  case first =>
   have H := HC5.out
   clear HC5
   by_cases c6 : x14_2 = true
   ·subst c6
    have H1 : (j2 kj2 l0 x3_1) = some r := by rw [if_pos rfl] at H; exact H
    clear H
    have H := H1
    clear H1
    have H' := Aside0.mk H
    clear H
    go_wp2
    go_meet
    case rel => exact ⟨_, H', ⟨by have := HK1.out; have := HJ2.out; first | omega | exact Nat.le_refl _⟩, ⟨by repeat (first | (with_reducible first | exact HB.out | apply below_alloc | apply pw_below_drewN | apply below_drew1) | exact HB.out)⟩⟩
   replace c6 := Bool.eq_false_iff.mpr c6
   subst c6
   have H1 : (j11 kj2) = some r := by rw [if_neg (show ¬ (false = true) by decide)] at H; exact H
   clear H
   have H := H1
   clear H1
   have H' := Aside0.mk H
   clear H
   go_wp2
   go_meet
   case rel => exact ⟨_, H', ⟨by have := HK1.out; have := HJ2.out; first | omega | exact Nat.le_refl _⟩, ⟨by repeat (first | (with_reducible first | exact HB.out | apply below_alloc | apply pw_below_drewN | apply below_drew1) | exact HB.out)⟩⟩
  case rest =>
  as_aux_lemma =>
  clear HC5
  try clear p2
  try clear c4
  try clear c4b0
  try clear c6
  try clear p2
  obtain ⟨kq, HA, HJ4, HB⟩ := hcut
  cases kq with
  | zero => exact absurd HA.out (by simp [j2])
  | succ kj4 =>
  have H := HA.out
  clear HA
  simp only [j2] at H
  by_cases c7 : 0 ≤ x3_1
  rotate_left
  ·rw [if_neg c7] at H
   exact absurd H (by simp)
  as_aux_lemma =>
  rw [if_pos c7] at H
  have c7b0 : decide (0 ≤ x3_1) = true := decide_eq_true c7
  clear c7
  by_cases c8 : x3_1 < (l0.length : Int)
  rotate_left
  ·rw [if_neg c8] at H
   exact absurd H (by simp)
  as_aux_lemma =>
  rw [if_pos c8] at H
  have c8b0 : decide (x3_1 < (l0.length : Int)) = true := decide_eq_true c8
  clear c8
  replace H := Option.bind_eq_some_iff.mp H
  obtain ⟨t522, A90, H⟩ := H
  replace H : (if t522 = true then (some true) else (j3 kj4 l0 x3_1 ((rd_T35 l0 x3_1).f0.f0) ((rd_T35 l0 x3_1).f0.f1) ((rd_T35 l0 x3_1).f0.f2) ((rd_T35 l0 x3_1).f0.f3) ((rd_T35 l0 x3_1).f0.f4) ((rd_T35 l0 x3_1).f0.f5) ((rd_T35 l0 x3_1).f0.f6) ((rd_T35 l0 x3_1).f1.f0) ((rd_T35 l0 x3_1).f1.f1) ((rd_T35 l0 x3_1).f1.f2) ((rd_T35 l0 x3_1).f1.f3) ((rd_T35 l0 x3_1).f1.f4) ((rd_T35 l0 x3_1).f1.f5) ((rd_T35 l0 x3_1).f2) ((rd_T35 l0 x3_1).f3) ((rd_T35 l0 x3_1).f4) ((rd_T35 l0 x3_1).f5) ((rd_T35 l0 x3_1).f6) ((rd_T35 l0 x3_1).f7.f0) ((rd_T35 l0 x3_1).f7.f1) ((rd_T35 l0 x3_1).f7.f2) ((rd_T35 l0 x3_1).f7.f3) ((rd_T35 l0 x3_1).f8))) = some r := H
  have A9 := Aside0.mk A90
  clear A90
  have HC10 := Aside0.mk H
  clear H
  have p520 : 0 ≤ (x3_1 : Int) := of_decide_eq_true (by first | (with_reducible assumption) | assumption)
  have q520 : x3_1 < (l0.length : Int) := of_decide_eq_true (by first | (with_reducible assumption) | assumption)
  obtain ⟨ad520, A520_8, c520_8, A520_9, c520_9, A520_22, c520_22, e520, hx520_0, hx520_1, hx520_2, hx520_3, hx520_4, hx520_5, hx520_6, hx520_7, hx520_8, hx520_9, hx520_10, hx520_11, hx520_12, hx520_13, hx520_14, hx520_15, hx520_16, hx520_17, hx520_18, hx520_19, hx520_20, hx520_21, hx520_22, hl520_8, hi520_8, hl520_9, hi520_9, hl520_22, hi520_22⟩ := at_T35 HR0.out x3_1 p520 q520
  cases e520
  replace hx520_0 := up HB hx520_0
  replace hx520_1 := up HB hx520_1
  replace hx520_2 := up HB hx520_2
  replace hx520_3 := up HB hx520_3
  replace hx520_4 := up HB hx520_4
  replace hx520_5 := up HB hx520_5
  replace hx520_6 := up HB hx520_6
  replace hx520_7 := up HB hx520_7
  replace hx520_8 := up HB hx520_8
  replace hx520_9 := up HB hx520_9
  replace hx520_10 := up HB hx520_10
  replace hx520_11 := up HB hx520_11
  replace hx520_12 := up HB hx520_12
  replace hx520_13 := up HB hx520_13
  replace hx520_14 := up HB hx520_14
  replace hx520_15 := up HB hx520_15
  replace hx520_16 := up HB hx520_16
  replace hx520_17 := up HB hx520_17
  replace hx520_18 := up HB hx520_18
  replace hx520_19 := up HB hx520_19
  replace hx520_20 := up HB hx520_20
  replace hx520_21 := up HB hx520_21
  replace hx520_22 := up HB hx520_22
  have HR520_8 := Aside0.mk hi520_8
  have HC520_8 := Aside0.mk hl520_8
  clear hi520_8 hl520_8
  have HR520_9 := Aside0.mk hi520_9
  have HC520_9 := Aside0.mk hl520_9
  clear hi520_9 hl520_9
  have HR520_22 := Aside0.mk hi520_22
  have HC520_22 := Aside0.mk hl520_22
  clear hi520_22 hl520_22
  replace p520 := eq_true p520
  replace q520 := eq_true q520
  go_upto_if 22 with (first | ((with_reducible refine gate_dst (N := 20) rfl ?_); (try (refine gate_guard (by rfl) ?_; dsimp only)); refine Go.Proofs.YthhmnecnoojcpaaO.load_cells ?hg (N := 20) ?hd 35 (x := ?xo20_) ?ho (ad := ?ad20_) ?hx [.int .i64 ((rd_T35 l0 x3_1).f0.f0), .int .i64 ((rd_T35 l0 x3_1).f0.f1), .int .i64 ((rd_T35 l0 x3_1).f0.f2), .int .i64 ((rd_T35 l0 x3_1).f0.f3), .int .i64 ((rd_T35 l0 x3_1).f0.f4), .int .i64 ((rd_T35 l0 x3_1).f0.f5), .string ((rd_T35 l0 x3_1).f0.f6), .int .i64 ((rd_T35 l0 x3_1).f1.f0), .slice A520_8 ((rd_T35 l0 x3_1).f1.f1).length c520_8, .slice A520_9 ((rd_T35 l0 x3_1).f1.f2).length c520_9, .string ((rd_T35 l0 x3_1).f1.f3), .int .i64 ((rd_T35 l0 x3_1).f1.f4), .int .i64 ((rd_T35 l0 x3_1).f1.f5), .int .i64 ((rd_T35 l0 x3_1).f2), .string ((rd_T35 l0 x3_1).f3), .int .i64 ((rd_T35 l0 x3_1).f4), .int .i64 ((rd_T35 l0 x3_1).f5), .int .i64 ((rd_T35 l0 x3_1).f6), .int .i64 ((rd_T35 l0 x3_1).f7.f0), .int .i64 ((rd_T35 l0 x3_1).f7.f1), .int .i64 ((rd_T35 l0 x3_1).f7.f2), .int .i64 ((rd_T35 l0 x3_1).f7.f3), .slice A520_22 ((rd_T35 l0 x3_1).f8).length c520_22] Try.underlying35 (by kernel_rfl) ?hc ?_; (case hd => rfl); (case hg => rfl); (case ho => rfl); (case hx => rfl); (case hc => exact ⟨hx520_0, hx520_1, hx520_2, hx520_3, hx520_4, hx520_5, hx520_6, hx520_7, hx520_8, hx520_9, hx520_10, hx520_11, hx520_12, hx520_13, hx520_14, hx520_15, hx520_16, hx520_17, hx520_18, hx520_19, hx520_20, hx520_21, hx520_22, trivial⟩)) | ((with_reducible refine gate_dst (N := 4) rfl ?_); (try (refine gate_guard (by rfl) ?_; dsimp only)); refine box_event ?hg (N := 4) ?hd (cs := #[.int .i64 0, .int .i64 0, .int .i64 0, .int .i64 0, .int .i64 0, .int .i64 0, .string (⟨#[]⟩ : ByteArray), .int .i64 0, .slice none 0 0, .slice none 0 0, .string (⟨#[]⟩ : ByteArray), .int .i64 0, .int .i64 0, .int .i64 0, .string (⟨#[]⟩ : ByteArray), .int .i64 0, .int .i64 0, .int .i64 0, .int .i64 0, .int .i64 0, .int .i64 0, .int .i64 0, .slice none 0 0]) (t := 35) ?hr ?_; (case hd => rfl); (case hg => rfl); (case hr => first | (go_simp; done) | (go_simp; rfl)); intro gb521 hg w11 hbox hb; have n0_ := Aside0.mk (below_step (by repeat (first | (with_reducible first | exact HB.out | apply below_alloc | apply pw_below_drewN | apply below_drew1) | exact HB.out)) hb); have n1_ := Aside0.mk (hbox); have n2_ := Aside0.mk ((by rw [hg]; exact (below_size (by repeat (first | (with_reducible first | exact HB.out | apply below_alloc | apply pw_below_drewN | apply below_drew1) | exact HB.out))) : w.heap.size ≤ gb521)); have n3_ := Aside0.mk ((by rw [hg]; exact (below_size (by repeat (first | (with_reducible first | exact HB.out | apply below_alloc | apply pw_below_drewN | apply below_drew1) | exact HB.out))) : w.heap.size ≤ gb521)); clear HB; have HB := n0_; have BK521 := n1_; have GW521 := n2_; have GE521 := n3_; clear n0_ n1_ n2_ n3_; clear hb hbox hg) | ((with_reducible refine gate_store (t := 35) (p := 4) rfl ?_); refine Go.Proofs.YthhmnecnoojcpaaO.store_whole ?hg ?hn (ty := 35) (x := ?xs_w12) (y := ?ys_w12) ?ho (g := gb521) ?hx [.int .i64 ((rd_T35 l0 x3_1).f0.f0), .int .i64 ((rd_T35 l0 x3_1).f0.f1), .int .i64 ((rd_T35 l0 x3_1).f0.f2), .int .i64 ((rd_T35 l0 x3_1).f0.f3), .int .i64 ((rd_T35 l0 x3_1).f0.f4), .int .i64 ((rd_T35 l0 x3_1).f0.f5), .string ((rd_T35 l0 x3_1).f0.f6), .int .i64 ((rd_T35 l0 x3_1).f1.f0), .slice A520_8 ((rd_T35 l0 x3_1).f1.f1).length c520_8, .slice A520_9 ((rd_T35 l0 x3_1).f1.f2).length c520_9, .string ((rd_T35 l0 x3_1).f1.f3), .int .i64 ((rd_T35 l0 x3_1).f1.f4), .int .i64 ((rd_T35 l0 x3_1).f1.f5), .int .i64 ((rd_T35 l0 x3_1).f2), .string ((rd_T35 l0 x3_1).f3), .int .i64 ((rd_T35 l0 x3_1).f4), .int .i64 ((rd_T35 l0 x3_1).f5), .int .i64 ((rd_T35 l0 x3_1).f6), .int .i64 ((rd_T35 l0 x3_1).f7.f0), .int .i64 ((rd_T35 l0 x3_1).f7.f1), .int .i64 ((rd_T35 l0 x3_1).f7.f2), .int .i64 ((rd_T35 l0 x3_1).f7.f3), .slice A520_22 ((rd_T35 l0 x3_1).f8).length c520_22] ?hy BK521.out (by kernel_rfl) rfl rfl ?_; (case ho => rfl); (case hg => rfl); (case hn => rfl); (case hx => rfl); (case hy => rfl); intro w12 hb_ hO_ hB_; have n0_ := Aside0.mk (hb_); have n1_ := Aside0.mk (hB_ _ _ HB.out GE521.out); clear BK521; clear HB; have BK521 := n0_; have HB := n1_; clear n0_ n1_; clear hb_ hO_ hB_) | ((with_reducible refine gate_dst (N := 21) rfl ?_); (try (refine gate_guard (by rfl) ?_; dsimp only)); refine Go.Proofs.YthhmnecnoojcpaaO.load_whole ?hg (N := 21) ?hd 35 (x := ?xo21_) ?ho (g := gb521) ?hx (cs := #[.int .i64 ((rd_T35 l0 x3_1).f0.f0), .int .i64 ((rd_T35 l0 x3_1).f0.f1), .int .i64 ((rd_T35 l0 x3_1).f0.f2), .int .i64 ((rd_T35 l0 x3_1).f0.f3), .int .i64 ((rd_T35 l0 x3_1).f0.f4), .int .i64 ((rd_T35 l0 x3_1).f0.f5), .string ((rd_T35 l0 x3_1).f0.f6), .int .i64 ((rd_T35 l0 x3_1).f1.f0), .slice A520_8 ((rd_T35 l0 x3_1).f1.f1).length c520_8, .slice A520_9 ((rd_T35 l0 x3_1).f1.f2).length c520_9, .string ((rd_T35 l0 x3_1).f1.f3), .int .i64 ((rd_T35 l0 x3_1).f1.f4), .int .i64 ((rd_T35 l0 x3_1).f1.f5), .int .i64 ((rd_T35 l0 x3_1).f2), .string ((rd_T35 l0 x3_1).f3), .int .i64 ((rd_T35 l0 x3_1).f4), .int .i64 ((rd_T35 l0 x3_1).f5), .int .i64 ((rd_T35 l0 x3_1).f6), .int .i64 ((rd_T35 l0 x3_1).f7.f0), .int .i64 ((rd_T35 l0 x3_1).f7.f1), .int .i64 ((rd_T35 l0 x3_1).f7.f2), .int .i64 ((rd_T35 l0 x3_1).f7.f3), .slice A520_22 ((rd_T35 l0 x3_1).f8).length c520_22]) BK521.out Try.underlying35 (by kernel_rfl) ?_; (case hd => rfl); (case hg => rfl); (case ho => rfl); (case hx => rfl)) | ((with_reducible refine gate_callee (f := 15) rfl ?_); refine goesL_ (some 22) rfl rfl Try.func15 (by kernel_rfl) rfl #[.agg #[.int .i64 ((rd_T35 l0 x3_1).f0.f0), .int .i64 ((rd_T35 l0 x3_1).f0.f1), .int .i64 ((rd_T35 l0 x3_1).f0.f2), .int .i64 ((rd_T35 l0 x3_1).f0.f3), .int .i64 ((rd_T35 l0 x3_1).f0.f4), .int .i64 ((rd_T35 l0 x3_1).f0.f5), .string ((rd_T35 l0 x3_1).f0.f6), .int .i64 ((rd_T35 l0 x3_1).f1.f0), .slice A520_8 ((rd_T35 l0 x3_1).f1.f1).length c520_8, .slice A520_9 ((rd_T35 l0 x3_1).f1.f2).length c520_9, .string ((rd_T35 l0 x3_1).f1.f3), .int .i64 ((rd_T35 l0 x3_1).f1.f4), .int .i64 ((rd_T35 l0 x3_1).f1.f5), .int .i64 ((rd_T35 l0 x3_1).f2), .string ((rd_T35 l0 x3_1).f3), .int .i64 ((rd_T35 l0 x3_1).f4), .int .i64 ((rd_T35 l0 x3_1).f5), .int .i64 ((rd_T35 l0 x3_1).f6), .int .i64 ((rd_T35 l0 x3_1).f7.f0), .int .i64 ((rd_T35 l0 x3_1).f7.f1), .int .i64 ((rd_T35 l0 x3_1).f7.f2), .int .i64 ((rd_T35 l0 x3_1).f7.f3), .slice A520_22 ((rd_T35 l0 x3_1).f8).length c520_22]] rfl (by (try simp only [List.map_toArray, List.map_cons, List.map_nil]); first | done | rfl | (simp only [List.length_drop, List.length_take]; rfl)) ?_; (with_reducible refine (gangwaylaw20_heavy.calls ((rd_T35 l0 x3_1).f0.f0) ((rd_T35 l0 x3_1).f0.f1) ((rd_T35 l0 x3_1).f0.f2) ((rd_T35 l0 x3_1).f0.f3) ((rd_T35 l0 x3_1).f0.f4) ((rd_T35 l0 x3_1).f0.f5) ((rd_T35 l0 x3_1).f0.f6) ((rd_T35 l0 x3_1).f1.f0) _ _ ((rd_T35 l0 x3_1).f1.f1) _ _ ((rd_T35 l0 x3_1).f1.f2) ((rd_T35 l0 x3_1).f1.f3) ((rd_T35 l0 x3_1).f1.f4) ((rd_T35 l0 x3_1).f1.f5) ((rd_T35 l0 x3_1).f2) ((rd_T35 l0 x3_1).f3) ((rd_T35 l0 x3_1).f4) ((rd_T35 l0 x3_1).f5) ((rd_T35 l0 x3_1).f6) ((rd_T35 l0 x3_1).f7.f0) ((rd_T35 l0 x3_1).f7.f1) ((rd_T35 l0 x3_1).f7.f2) ((rd_T35 l0 x3_1).f7.f3) _ _ ((rd_T35 l0 x3_1).f8) t522 _ ?side1 ?side2 ?side3 ?side4 ?side5 ?side6 A9.out).mono ?_); (case side1 => repeat (first | exact (Kd.C_below HR520_8.out HB.out) | (with_reducible refine Kd.C_alloc ?_ _) | (with_reducible refine Kd.C_drewN ?_ _) | (with_reducible refine Kd.C_drew ?_))); (case side2 => exact HC520_8.out); (case side3 => repeat (first | exact (Kd.C_below HR520_9.out HB.out) | (with_reducible refine Kd.C_alloc ?_ _) | (with_reducible refine Kd.C_drewN ?_ _) | (with_reducible refine Kd.C_drew ?_))); (case side4 => exact HC520_9.out); (case side5 => repeat (first | exact (Kd.C_below HR520_22.out HB.out) | (with_reducible refine Kd.C_alloc ?_ _) | (with_reducible refine Kd.C_drewN ?_ _) | (with_reducible refine Kd.C_drew ?_))); (case side6 => exact HC520_22.out); rintro e w13 ⟨rfl, hb⟩; refine ⟨_, rfl, ?_⟩; have n0_ := Aside0.mk (bbelow BK521 (by (with_reducible repeat (first | refine blk_drewN ?_ _ | refine blk_drew ?_ | refine blk_alloc ?_ _)); exact BK521.out) hb); have n1_ := Aside0.mk (below_step (by repeat (first | (with_reducible first | exact HB.out | apply below_alloc | apply pw_below_drewN | apply below_drew1 | refine below_set ?_ GE521.out) | exact HB.out)) hb); clear BK521; clear HB; have BK521 := n0_; have HB := n1_; clear n0_ n1_; (try clear hb); (try clear hb2); (try clear hk); (try clear hi)))
  (try simp only [Act.put, e1, e2, e3])
  go_cut [] (fun wc => ∃ (kq : Nat), Aside0 (j3 kq l0 x3_1 ((rd_T35 l0 x3_1).f0.f0) ((rd_T35 l0 x3_1).f0.f1) ((rd_T35 l0 x3_1).f0.f2) ((rd_T35 l0 x3_1).f0.f3) ((rd_T35 l0 x3_1).f0.f4) ((rd_T35 l0 x3_1).f0.f5) ((rd_T35 l0 x3_1).f0.f6) ((rd_T35 l0 x3_1).f1.f0) ((rd_T35 l0 x3_1).f1.f1) ((rd_T35 l0 x3_1).f1.f2) ((rd_T35 l0 x3_1).f1.f3) ((rd_T35 l0 x3_1).f1.f4) ((rd_T35 l0 x3_1).f1.f5) ((rd_T35 l0 x3_1).f2) ((rd_T35 l0 x3_1).f3) ((rd_T35 l0 x3_1).f4) ((rd_T35 l0 x3_1).f5) ((rd_T35 l0 x3_1).f6) ((rd_T35 l0 x3_1).f7.f0) ((rd_T35 l0 x3_1).f7.f1) ((rd_T35 l0 x3_1).f7.f2) ((rd_T35 l0 x3_1).f7.f3) ((rd_T35 l0 x3_1).f8) = some r) ∧ Aside0 (kq ≤ kj4) ∧ Aside0 (wc.heap[gb521]? = some (.cells #[.int .i64 ((rd_T35 l0 x3_1).f0.f0), .int .i64 ((rd_T35 l0 x3_1).f0.f1), .int .i64 ((rd_T35 l0 x3_1).f0.f2), .int .i64 ((rd_T35 l0 x3_1).f0.f3), .int .i64 ((rd_T35 l0 x3_1).f0.f4), .int .i64 ((rd_T35 l0 x3_1).f0.f5), .string ((rd_T35 l0 x3_1).f0.f6), .int .i64 ((rd_T35 l0 x3_1).f1.f0), (.slice A520_8 ((rd_T35 l0 x3_1).f1.f1).length c520_8), (.slice A520_9 ((rd_T35 l0 x3_1).f1.f2).length c520_9), .string ((rd_T35 l0 x3_1).f1.f3), .int .i64 ((rd_T35 l0 x3_1).f1.f4), .int .i64 ((rd_T35 l0 x3_1).f1.f5), .int .i64 ((rd_T35 l0 x3_1).f2), .string ((rd_T35 l0 x3_1).f3), .int .i64 ((rd_T35 l0 x3_1).f4), .int .i64 ((rd_T35 l0 x3_1).f5), .int .i64 ((rd_T35 l0 x3_1).f6), .int .i64 ((rd_T35 l0 x3_1).f7.f0), .int .i64 ((rd_T35 l0 x3_1).f7.f1), .int .i64 ((rd_T35 l0 x3_1).f7.f2), .int .i64 ((rd_T35 l0 x3_1).f7.f3), (.slice A520_22 ((rd_T35 l0 x3_1).f8).length c520_22)] 35 (0, 0))) ∧ Aside0 (Below w.heap.size w wc))
  case first =>
   have H := HC10.out
   clear HC10
   by_cases c14 : t522 = true
   ·subst c14
    have H1 : (some true) = some r := by rw [if_pos rfl] at H; exact H
    clear H
    have H := H1
    clear H1
    obtain rfl := Option.some.inj H
    go_wp2
    go_ret
    exact ⟨by first | rfl | (simp [errW_none, errW_some] <;> rfl) | (simp [*, errW_none, errW_some] <;> rfl), by repeat (first | (with_reducible first | exact HB.out | apply below_alloc | apply pw_below_drewN | apply below_drew1 | refine below_set ?_ GE521.out) | exact HB.out)⟩
   replace c14 := Bool.eq_false_iff.mpr c14
   subst c14
   have H1 : (j3 kj4 l0 x3_1 ((rd_T35 l0 x3_1).f0.f0) ((rd_T35 l0 x3_1).f0.f1) ((rd_T35 l0 x3_1).f0.f2) ((rd_T35 l0 x3_1).f0.f3) ((rd_T35 l0 x3_1).f0.f4) ((rd_T35 l0 x3_1).f0.f5) ((rd_T35 l0 x3_1).f0.f6) ((rd_T35 l0 x3_1).f1.f0) ((rd_T35 l0 x3_1).f1.f1) ((rd_T35 l0 x3_1).f1.f2) ((rd_T35 l0 x3_1).f1.f3) ((rd_T35 l0 x3_1).f1.f4) ((rd_T35 l0 x3_1).f1.f5) ((rd_T35 l0 x3_1).f2) ((rd_T35 l0 x3_1).f3) ((rd_T35 l0 x3_1).f4) ((rd_T35 l0 x3_1).f5) ((rd_T35 l0 x3_1).f6) ((rd_T35 l0 x3_1).f7.f0) ((rd_T35 l0 x3_1).f7.f1) ((rd_T35 l0 x3_1).f7.f2) ((rd_T35 l0 x3_1).f7.f3) ((rd_T35 l0 x3_1).f8)) = some r := by rw [if_neg (show ¬ (false = true) by decide)] at H; exact H
   clear H
   have H := H1
   clear H1
   have H' := Aside0.mk H
   clear H
   go_wp2
   go_meet
   case rel => exact ⟨_, H', ⟨by have := HK1.out; have := HJ2.out; have := HJ4.out; first | omega | exact Nat.le_refl _⟩, ⟨by (with_reducible repeat (first | refine blk_drewN ?_ _ | refine blk_drew ?_ | refine blk_alloc ?_ _)); exact BK521.out⟩, ⟨by repeat (first | (with_reducible first | exact HB.out | apply below_alloc | apply pw_below_drewN | apply below_drew1 | refine below_set ?_ GE521.out) | exact HB.out)⟩⟩
  case rest =>
  as_aux_lemma =>
  clear HC10
  try clear c1
  try clear p2
  try clear c4
  try clear c4b0
  try clear c5
  try clear p5
  try clear q5
  try clear hx5
  try clear c6
  try clear c7
  try clear c7b0
  try clear c8
  try clear c8b0
  try clear c9
  try clear c14
  try clear hx520_0
  try clear hx520_1
  try clear hx520_10
  try clear hx520_11
  try clear hx520_12
  try clear hx520_13
  try clear hx520_14
  try clear hx520_15
  try clear hx520_16
  try clear hx520_17
  try clear hx520_18
  try clear hx520_19
  try clear hx520_2
  try clear hx520_20
  try clear hx520_21
  try clear hx520_22
  try clear hx520_3
  try clear hx520_4
  try clear hx520_5
  try clear hx520_6
  try clear hx520_7
  try clear hx520_8
  try clear hx520_9
  try clear p2
  try clear p520
  try clear q520
  obtain ⟨kq, HA, HJ9, BK521, HB⟩ := hcut
  cases kq with
  | zero => exact absurd HA.out (by simp [j3])
  | succ kj9 =>
  have H := HA.out
  clear HA
  simp only [j3] at H
  replace H := Option.bind_eq_some_iff.mp H
  obtain ⟨⟨t523, t526⟩, A150, H⟩ := H
  replace H : ((gangwaylaw20_num.f t526).bind fun t527 => (if t527 = 0 then (j4 kj9 l0 x3_1 ((t523.length : Int) != 24) ((rd_T35 l0 x3_1).f0.f0) ((rd_T35 l0 x3_1).f0.f1) ((rd_T35 l0 x3_1).f0.f2) ((rd_T35 l0 x3_1).f0.f3) ((rd_T35 l0 x3_1).f0.f4) ((rd_T35 l0 x3_1).f0.f5) ((rd_T35 l0 x3_1).f0.f6) ((rd_T35 l0 x3_1).f1.f0) ((rd_T35 l0 x3_1).f1.f1) ((rd_T35 l0 x3_1).f1.f2) ((rd_T35 l0 x3_1).f1.f3) ((rd_T35 l0 x3_1).f1.f4) ((rd_T35 l0 x3_1).f1.f5) ((rd_T35 l0 x3_1).f2) ((rd_T35 l0 x3_1).f3) ((rd_T35 l0 x3_1).f4) ((rd_T35 l0 x3_1).f5) ((rd_T35 l0 x3_1).f6) ((rd_T35 l0 x3_1).f7.f0) ((rd_T35 l0 x3_1).f7.f1) ((rd_T35 l0 x3_1).f7.f2) ((rd_T35 l0 x3_1).f7.f3) ((rd_T35 l0 x3_1).f8)) else (j4 kj9 l0 x3_1 false ((rd_T35 l0 x3_1).f0.f0) ((rd_T35 l0 x3_1).f0.f1) ((rd_T35 l0 x3_1).f0.f2) ((rd_T35 l0 x3_1).f0.f3) ((rd_T35 l0 x3_1).f0.f4) ((rd_T35 l0 x3_1).f0.f5) ((rd_T35 l0 x3_1).f0.f6) ((rd_T35 l0 x3_1).f1.f0) ((rd_T35 l0 x3_1).f1.f1) ((rd_T35 l0 x3_1).f1.f2) ((rd_T35 l0 x3_1).f1.f3) ((rd_T35 l0 x3_1).f1.f4) ((rd_T35 l0 x3_1).f1.f5) ((rd_T35 l0 x3_1).f2) ((rd_T35 l0 x3_1).f3) ((rd_T35 l0 x3_1).f4) ((rd_T35 l0 x3_1).f5) ((rd_T35 l0 x3_1).f6) ((rd_T35 l0 x3_1).f7.f0) ((rd_T35 l0 x3_1).f7.f1) ((rd_T35 l0 x3_1).f7.f2) ((rd_T35 l0 x3_1).f7.f3) ((rd_T35 l0 x3_1).f8)))) = some r := H
  have A15 := Aside0.mk A150
  clear A150
  have HC16 := Aside0.mk H
  clear H
  have hcz17_0 : wc.cell? ⟨gb521, 0, none⟩ = some (.int .i64 ((rd_T35 l0 x3_1).f0.f0)) := bc BK521 0
  have hcz17_1 : wc.cell? ⟨gb521, 1, none⟩ = some (.int .i64 ((rd_T35 l0 x3_1).f0.f1)) := bc BK521 1
  have hcz17_2 : wc.cell? ⟨gb521, 2, none⟩ = some (.int .i64 ((rd_T35 l0 x3_1).f0.f2)) := bc BK521 2
  have hcz17_3 : wc.cell? ⟨gb521, 3, none⟩ = some (.int .i64 ((rd_T35 l0 x3_1).f0.f3)) := bc BK521 3
  have hcz17_4 : wc.cell? ⟨gb521, 4, none⟩ = some (.int .i64 ((rd_T35 l0 x3_1).f0.f4)) := bc BK521 4
  have hcz17_5 : wc.cell? ⟨gb521, 5, none⟩ = some (.int .i64 ((rd_T35 l0 x3_1).f0.f5)) := bc BK521 5
  have hcz17_6 : wc.cell? ⟨gb521, 6, none⟩ = some (.string ((rd_T35 l0 x3_1).f0.f6)) := bc BK521 6
  have hcz17_7 : wc.cell? ⟨gb521, 7, none⟩ = some (.int .i64 ((rd_T35 l0 x3_1).f1.f0)) := bc BK521 7
  have hcz17_8 : wc.cell? ⟨gb521, 8, none⟩ = some (.slice A520_8 ((rd_T35 l0 x3_1).f1.f1).length c520_8) := bc BK521 8
  have hcz17_9 : wc.cell? ⟨gb521, 9, none⟩ = some (.slice A520_9 ((rd_T35 l0 x3_1).f1.f2).length c520_9) := bc BK521 9
  have hcz17_10 : wc.cell? ⟨gb521, 10, none⟩ = some (.string ((rd_T35 l0 x3_1).f1.f3)) := bc BK521 10
  have hcz17_11 : wc.cell? ⟨gb521, 11, none⟩ = some (.int .i64 ((rd_T35 l0 x3_1).f1.f4)) := bc BK521 11
  have hcz17_12 : wc.cell? ⟨gb521, 12, none⟩ = some (.int .i64 ((rd_T35 l0 x3_1).f1.f5)) := bc BK521 12
  have hcz17_13 : wc.cell? ⟨gb521, 13, none⟩ = some (.int .i64 ((rd_T35 l0 x3_1).f2)) := bc BK521 13
  have hcz17_14 : wc.cell? ⟨gb521, 14, none⟩ = some (.string ((rd_T35 l0 x3_1).f3)) := bc BK521 14
  have hcz17_15 : wc.cell? ⟨gb521, 15, none⟩ = some (.int .i64 ((rd_T35 l0 x3_1).f4)) := bc BK521 15
  have hcz17_16 : wc.cell? ⟨gb521, 16, none⟩ = some (.int .i64 ((rd_T35 l0 x3_1).f5)) := bc BK521 16
  have hcz17_17 : wc.cell? ⟨gb521, 17, none⟩ = some (.int .i64 ((rd_T35 l0 x3_1).f6)) := bc BK521 17
  have hcz17_18 : wc.cell? ⟨gb521, 18, none⟩ = some (.int .i64 ((rd_T35 l0 x3_1).f7.f0)) := bc BK521 18
  have hcz17_19 : wc.cell? ⟨gb521, 19, none⟩ = some (.int .i64 ((rd_T35 l0 x3_1).f7.f1)) := bc BK521 19
  have hcz17_20 : wc.cell? ⟨gb521, 20, none⟩ = some (.int .i64 ((rd_T35 l0 x3_1).f7.f2)) := bc BK521 20
  have hcz17_21 : wc.cell? ⟨gb521, 21, none⟩ = some (.int .i64 ((rd_T35 l0 x3_1).f7.f3)) := bc BK521 21
  go_upto_region 8 with (first | ((with_reducible refine gate_callee (f := 21) rfl ?_); refine goesL_ (some 26) rfl rfl Try.func21 (by kernel_rfl) rfl #[.agg #[.int .i64 ((rd_T35 l0 x3_1).f0.f0), .int .i64 ((rd_T35 l0 x3_1).f0.f1), .int .i64 ((rd_T35 l0 x3_1).f0.f2), .int .i64 ((rd_T35 l0 x3_1).f0.f3), .int .i64 ((rd_T35 l0 x3_1).f0.f4), .int .i64 ((rd_T35 l0 x3_1).f0.f5), .string ((rd_T35 l0 x3_1).f0.f6)]] rfl (by (try simp only [List.map_toArray, List.map_cons, List.map_nil]); first | done | rfl | (simp only [List.length_drop, List.length_take]; rfl)) ?_; (with_reducible refine (stat_Fdstat.calls kj9 ((rd_T35 l0 x3_1).f0.f0) ((rd_T35 l0 x3_1).f0.f1) ((rd_T35 l0 x3_1).f0.f2) ((rd_T35 l0 x3_1).f0.f3) ((rd_T35 l0 x3_1).f0.f4) ((rd_T35 l0 x3_1).f0.f5) ((rd_T35 l0 x3_1).f0.f6) t523 t526 _ A15.out).mono ?_); rintro e w18 ⟨v524, rfl, ho0, hb⟩; refine ⟨_, rfl, ?_⟩; have n0_ := Aside0.mk (Kd.R_lower ho0 (below_size (by repeat (first | (with_reducible first | exact HB.out | apply below_alloc | apply pw_below_drewN | apply below_drew1 | refine below_set ?_ GE521.out) | exact HB.out)))); have n1_ := Aside0.mk (bbelow BK521 (by (with_reducible repeat (first | refine blk_drewN ?_ _ | refine blk_drew ?_ | refine blk_alloc ?_ _)); exact BK521.out) hb); have n2_ := Aside0.mk (below_step (by repeat (first | (with_reducible first | exact HB.out | apply below_alloc | apply pw_below_drewN | apply below_drew1 | refine below_set ?_ GE521.out) | exact HB.out)) hb); clear BK521; clear HB; have HO525 := n0_; have BK521 := n1_; have HB := n2_; clear n0_ n1_ n2_; (try clear hb); (try clear hb2); (try clear hk); (try clear hi); (try clear ho0)))
  (try simp only [Act.put, e1, e2, e3])
  go_cut [36] (fun v36 wc => ∃ (kq : Nat) (x36_15 : Bool), v36 = .bool x36_15 ∧ Aside0 (j4 kq l0 x3_1 x36_15 ((rd_T35 l0 x3_1).f0.f0) ((rd_T35 l0 x3_1).f0.f1) ((rd_T35 l0 x3_1).f0.f2) ((rd_T35 l0 x3_1).f0.f3) ((rd_T35 l0 x3_1).f0.f4) ((rd_T35 l0 x3_1).f0.f5) ((rd_T35 l0 x3_1).f0.f6) ((rd_T35 l0 x3_1).f1.f0) ((rd_T35 l0 x3_1).f1.f1) ((rd_T35 l0 x3_1).f1.f2) ((rd_T35 l0 x3_1).f1.f3) ((rd_T35 l0 x3_1).f1.f4) ((rd_T35 l0 x3_1).f1.f5) ((rd_T35 l0 x3_1).f2) ((rd_T35 l0 x3_1).f3) ((rd_T35 l0 x3_1).f4) ((rd_T35 l0 x3_1).f5) ((rd_T35 l0 x3_1).f6) ((rd_T35 l0 x3_1).f7.f0) ((rd_T35 l0 x3_1).f7.f1) ((rd_T35 l0 x3_1).f7.f2) ((rd_T35 l0 x3_1).f7.f3) ((rd_T35 l0 x3_1).f8) = some r) ∧ Aside0 (kq ≤ kj9) ∧ Aside0 (wc.heap[gb521]? = some (.cells #[.int .i64 ((rd_T35 l0 x3_1).f0.f0), .int .i64 ((rd_T35 l0 x3_1).f0.f1), .int .i64 ((rd_T35 l0 x3_1).f0.f2), .int .i64 ((rd_T35 l0 x3_1).f0.f3), .int .i64 ((rd_T35 l0 x3_1).f0.f4), .int .i64 ((rd_T35 l0 x3_1).f0.f5), .string ((rd_T35 l0 x3_1).f0.f6), .int .i64 ((rd_T35 l0 x3_1).f1.f0), (.slice A520_8 ((rd_T35 l0 x3_1).f1.f1).length c520_8), (.slice A520_9 ((rd_T35 l0 x3_1).f1.f2).length c520_9), .string ((rd_T35 l0 x3_1).f1.f3), .int .i64 ((rd_T35 l0 x3_1).f1.f4), .int .i64 ((rd_T35 l0 x3_1).f1.f5), .int .i64 ((rd_T35 l0 x3_1).f2), .string ((rd_T35 l0 x3_1).f3), .int .i64 ((rd_T35 l0 x3_1).f4), .int .i64 ((rd_T35 l0 x3_1).f5), .int .i64 ((rd_T35 l0 x3_1).f6), .int .i64 ((rd_T35 l0 x3_1).f7.f0), .int .i64 ((rd_T35 l0 x3_1).f7.f1), .int .i64 ((rd_T35 l0 x3_1).f7.f2), .int .i64 ((rd_T35 l0 x3_1).f7.f3), (.slice A520_22 ((rd_T35 l0 x3_1).f8).length c520_22)] 35 (0, 0))) ∧ Aside0 (Below w.heap.size w wc))
  case first =>
   have H := HC16.out
   clear HC16
   replace H := Option.bind_eq_some_iff.mp H
   obtain ⟨t527, A190, H⟩ := H
   replace H : (if t527 = 0 then (j4 kj9 l0 x3_1 ((t523.length : Int) != 24) ((rd_T35 l0 x3_1).f0.f0) ((rd_T35 l0 x3_1).f0.f1) ((rd_T35 l0 x3_1).f0.f2) ((rd_T35 l0 x3_1).f0.f3) ((rd_T35 l0 x3_1).f0.f4) ((rd_T35 l0 x3_1).f0.f5) ((rd_T35 l0 x3_1).f0.f6) ((rd_T35 l0 x3_1).f1.f0) ((rd_T35 l0 x3_1).f1.f1) ((rd_T35 l0 x3_1).f1.f2) ((rd_T35 l0 x3_1).f1.f3) ((rd_T35 l0 x3_1).f1.f4) ((rd_T35 l0 x3_1).f1.f5) ((rd_T35 l0 x3_1).f2) ((rd_T35 l0 x3_1).f3) ((rd_T35 l0 x3_1).f4) ((rd_T35 l0 x3_1).f5) ((rd_T35 l0 x3_1).f6) ((rd_T35 l0 x3_1).f7.f0) ((rd_T35 l0 x3_1).f7.f1) ((rd_T35 l0 x3_1).f7.f2) ((rd_T35 l0 x3_1).f7.f3) ((rd_T35 l0 x3_1).f8)) else (j4 kj9 l0 x3_1 false ((rd_T35 l0 x3_1).f0.f0) ((rd_T35 l0 x3_1).f0.f1) ((rd_T35 l0 x3_1).f0.f2) ((rd_T35 l0 x3_1).f0.f3) ((rd_T35 l0 x3_1).f0.f4) ((rd_T35 l0 x3_1).f0.f5) ((rd_T35 l0 x3_1).f0.f6) ((rd_T35 l0 x3_1).f1.f0) ((rd_T35 l0 x3_1).f1.f1) ((rd_T35 l0 x3_1).f1.f2) ((rd_T35 l0 x3_1).f1.f3) ((rd_T35 l0 x3_1).f1.f4) ((rd_T35 l0 x3_1).f1.f5) ((rd_T35 l0 x3_1).f2) ((rd_T35 l0 x3_1).f3) ((rd_T35 l0 x3_1).f4) ((rd_T35 l0 x3_1).f5) ((rd_T35 l0 x3_1).f6) ((rd_T35 l0 x3_1).f7.f0) ((rd_T35 l0 x3_1).f7.f1) ((rd_T35 l0 x3_1).f7.f2) ((rd_T35 l0 x3_1).f7.f3) ((rd_T35 l0 x3_1).f8))) = some r := H
   have A19 := Aside0.mk A190
   clear A190
   by_cases c20 : t527 = 0
   ·rw [if_pos c20] at H
    have c20b0 : (t527 == 0) = true := beq_iff_eq.mpr c20
    have c20b1 : (t527 != 0) = false := bne_eq_false_iff_eq.mpr c20
    clear c20
    (first | rw [c20b0] | (simp only [i64_w, i32_w]; rw [c20b0]) | skip)
    have H' := Aside0.mk H
    clear H
    go_wp2_with (first | ((with_reducible refine gate_callee (f := 19) rfl ?_); refine goesL_ (some 30) rfl rfl Try.func19 (by kernel_rfl) rfl #[.int .i64 t526] rfl (by (try simp only [List.map_toArray, List.map_cons, List.map_nil]); first | done | rfl | (simp only [List.length_drop, List.length_take]; rfl)) ?_; (with_reducible refine (gangwaylaw20_num.calls t526 t527 _ A19.out).mono ?_); rintro e w' ⟨rfl, ⟨nd, rfl⟩⟩; refine ⟨_, rfl, ?_⟩; obtain ⟨Ao21, co21, eo21⟩ := Kd.R_slice HO525.out; subst eo21))
    go_meet
    case rel => exact ⟨_, (((t523.length : Int) != 24)), (by first | rfl | (simp; done) | (simp [*]; done)), H', ⟨by have := HK1.out; have := HJ2.out; have := HJ4.out; have := HJ9.out; first | omega | exact Nat.le_refl _⟩, ⟨by (with_reducible repeat (first | refine blk_drewN ?_ _ | refine blk_drew ?_ | refine blk_alloc ?_ _)); exact BK521.out⟩, ⟨by repeat (first | (with_reducible first | exact HB.out | apply below_alloc | apply pw_below_drewN | apply below_drew1 | refine below_set ?_ GE521.out) | exact HB.out)⟩⟩
   rw [if_neg c20] at H
   have c20b0 : (t527 == 0) = false := beq_eq_false_iff_ne.mpr c20
   have c20b1 : (t527 != 0) = true := bne_iff_ne.mpr c20
   (first | rw [c20b0] | (simp only [i64_w, i32_w]; rw [c20b0]) | skip)
   have H' := Aside0.mk H
   clear H
   go_wp2_with (first | ((with_reducible refine gate_callee (f := 19) rfl ?_); refine goesL_ (some 30) rfl rfl Try.func19 (by kernel_rfl) rfl #[.int .i64 t526] rfl (by (try simp only [List.map_toArray, List.map_cons, List.map_nil]); first | done | rfl | (simp only [List.length_drop, List.length_take]; rfl)) ?_; (with_reducible refine (gangwaylaw20_num.calls t526 t527 _ A19.out).mono ?_); rintro e w' ⟨rfl, ⟨nd, rfl⟩⟩; refine ⟨_, rfl, ?_⟩))
   go_meet
   case rel => exact ⟨_, (false), (by first | rfl | (simp; done) | (simp [*]; done)), H', ⟨by have := HK1.out; have := HJ2.out; have := HJ4.out; have := HJ9.out; first | omega | exact Nat.le_refl _⟩, ⟨by (with_reducible repeat (first | refine blk_drewN ?_ _ | refine blk_drew ?_ | refine blk_alloc ?_ _)); exact BK521.out⟩, ⟨by repeat (first | (with_reducible first | exact HB.out | apply below_alloc | apply pw_below_drewN | apply below_drew1 | refine below_set ?_ GE521.out) | exact HB.out)⟩⟩
  case rest =>
  as_aux_lemma =>
  clear HC16
  try clear c1
  try clear c2
  try clear p2
  try clear c4
  try clear c4b0
  try clear c5
  try clear p5
  try clear q5
  try clear hx5
  try clear c6
  try clear c7
  try clear c7b0
  try clear c8
  try clear c8b0
  try clear c9
  try clear c14
  try clear c15
  try clear c19
  try clear c20
  try clear c20b0
  try clear c20b1
  try clear c21
  try clear hcz17_0
  try clear hcz17_1
  try clear hcz17_10
  try clear hcz17_11
  try clear hcz17_12
  try clear hcz17_13
  try clear hcz17_14
  try clear hcz17_15
  try clear hcz17_16
  try clear hcz17_17
  try clear hcz17_18
  try clear hcz17_19
  try clear hcz17_2
  try clear hcz17_20
  try clear hcz17_21
  try clear hcz17_3
  try clear hcz17_4
  try clear hcz17_5
  try clear hcz17_6
  try clear hcz17_7
  try clear hcz17_8
  try clear hcz17_9
  try clear hx520_0
  try clear hx520_1
  try clear hx520_10
  try clear hx520_11
  try clear hx520_12
  try clear hx520_13
  try clear hx520_14
  try clear hx520_15
  try clear hx520_16
  try clear hx520_17
  try clear hx520_18
  try clear hx520_19
  try clear hx520_2
  try clear hx520_20
  try clear hx520_21
  try clear hx520_22
  try clear hx520_3
  try clear hx520_4
  try clear hx520_5
  try clear hx520_6
  try clear hx520_7
  try clear hx520_8
  try clear hx520_9
  try clear p2
  try clear p5
  try clear p520
  try clear q5
  try clear q520
  obtain ⟨kq, x36_15, rfl, HA, HJ15, BK521, HB⟩ := hcut
  cases kq with
  | zero => exact absurd HA.out (by simp [j4])
  | succ kj15 =>
  have H := HA.out
  clear HA
  simp only [j4] at H
  have HC22 := Aside0.mk H
  clear H
  go_upto_if 36 with (fail)
  go_cut [] (fun wc => ∃ (kq : Nat), Aside0 (j5 kq l0 x3_1 ((rd_T35 l0 x3_1).f0.f0) ((rd_T35 l0 x3_1).f0.f1) ((rd_T35 l0 x3_1).f0.f2) ((rd_T35 l0 x3_1).f0.f3) ((rd_T35 l0 x3_1).f0.f4) ((rd_T35 l0 x3_1).f0.f5) ((rd_T35 l0 x3_1).f0.f6) ((rd_T35 l0 x3_1).f1.f0) ((rd_T35 l0 x3_1).f1.f1) ((rd_T35 l0 x3_1).f1.f2) ((rd_T35 l0 x3_1).f1.f3) ((rd_T35 l0 x3_1).f1.f4) ((rd_T35 l0 x3_1).f1.f5) ((rd_T35 l0 x3_1).f2) ((rd_T35 l0 x3_1).f3) ((rd_T35 l0 x3_1).f4) ((rd_T35 l0 x3_1).f5) ((rd_T35 l0 x3_1).f6) ((rd_T35 l0 x3_1).f7.f0) ((rd_T35 l0 x3_1).f7.f1) ((rd_T35 l0 x3_1).f7.f2) ((rd_T35 l0 x3_1).f7.f3) ((rd_T35 l0 x3_1).f8) = some r) ∧ Aside0 (kq ≤ kj15) ∧ Aside0 (wc.heap[gb521]? = some (.cells #[.int .i64 ((rd_T35 l0 x3_1).f0.f0), .int .i64 ((rd_T35 l0 x3_1).f0.f1), .int .i64 ((rd_T35 l0 x3_1).f0.f2), .int .i64 ((rd_T35 l0 x3_1).f0.f3), .int .i64 ((rd_T35 l0 x3_1).f0.f4), .int .i64 ((rd_T35 l0 x3_1).f0.f5), .string ((rd_T35 l0 x3_1).f0.f6), .int .i64 ((rd_T35 l0 x3_1).f1.f0), (.slice A520_8 ((rd_T35 l0 x3_1).f1.f1).length c520_8), (.slice A520_9 ((rd_T35 l0 x3_1).f1.f2).length c520_9), .string ((rd_T35 l0 x3_1).f1.f3), .int .i64 ((rd_T35 l0 x3_1).f1.f4), .int .i64 ((rd_T35 l0 x3_1).f1.f5), .int .i64 ((rd_T35 l0 x3_1).f2), .string ((rd_T35 l0 x3_1).f3), .int .i64 ((rd_T35 l0 x3_1).f4), .int .i64 ((rd_T35 l0 x3_1).f5), .int .i64 ((rd_T35 l0 x3_1).f6), .int .i64 ((rd_T35 l0 x3_1).f7.f0), .int .i64 ((rd_T35 l0 x3_1).f7.f1), .int .i64 ((rd_T35 l0 x3_1).f7.f2), .int .i64 ((rd_T35 l0 x3_1).f7.f3), (.slice A520_22 ((rd_T35 l0 x3_1).f8).length c520_22)] 35 (0, 0))) ∧ Aside0 (Below w.heap.size w wc))
  case first =>
   have H := HC22.out
   clear HC22
   by_cases c23 : x36_15 = true
   ·subst c23
    have H1 : (none) = some r := by rw [if_pos rfl] at H; exact H
    clear H
    have H := H1
    clear H1
    exact absurd H (by simp)
   replace c23 := Bool.eq_false_iff.mpr c23
   subst c23
   have H1 : (j5 kj15 l0 x3_1 ((rd_T35 l0 x3_1).f0.f0) ((rd_T35 l0 x3_1).f0.f1) ((rd_T35 l0 x3_1).f0.f2) ((rd_T35 l0 x3_1).f0.f3) ((rd_T35 l0 x3_1).f0.f4) ((rd_T35 l0 x3_1).f0.f5) ((rd_T35 l0 x3_1).f0.f6) ((rd_T35 l0 x3_1).f1.f0) ((rd_T35 l0 x3_1).f1.f1) ((rd_T35 l0 x3_1).f1.f2) ((rd_T35 l0 x3_1).f1.f3) ((rd_T35 l0 x3_1).f1.f4) ((rd_T35 l0 x3_1).f1.f5) ((rd_T35 l0 x3_1).f2) ((rd_T35 l0 x3_1).f3) ((rd_T35 l0 x3_1).f4) ((rd_T35 l0 x3_1).f5) ((rd_T35 l0 x3_1).f6) ((rd_T35 l0 x3_1).f7.f0) ((rd_T35 l0 x3_1).f7.f1) ((rd_T35 l0 x3_1).f7.f2) ((rd_T35 l0 x3_1).f7.f3) ((rd_T35 l0 x3_1).f8)) = some r := by rw [if_neg (show ¬ (false = true) by decide)] at H; exact H
   clear H
   have H := H1
   clear H1
   have H' := Aside0.mk H
   clear H
   go_wp2
   go_meet
   case rel => exact ⟨_, H', ⟨by have := HK1.out; have := HJ2.out; have := HJ4.out; have := HJ9.out; have := HJ15.out; first | omega | exact Nat.le_refl _⟩, ⟨by (with_reducible repeat (first | refine blk_drewN ?_ _ | refine blk_drew ?_ | refine blk_alloc ?_ _)); exact BK521.out⟩, ⟨by repeat (first | (with_reducible first | exact HB.out | apply below_alloc | apply pw_below_drewN | apply below_drew1 | refine below_set ?_ GE521.out) | exact HB.out)⟩⟩
  case rest =>
  as_aux_lemma =>
  clear HC22
  try clear c1
  try clear c2
  try clear p2
  try clear c4
  try clear c4b0
  try clear c5
  try clear p5
  try clear q5
  try clear hx5
  try clear c6
  try clear c7
  try clear c7b0
  try clear c8
  try clear c8b0
  try clear c9
  try clear c14
  try clear c15
  try clear c19
  try clear c20
  try clear c20b0
  try clear c20b1
  try clear c21
  try clear c23
  try clear hcz17_0
  try clear hcz17_1
  try clear hcz17_10
  try clear hcz17_11
  try clear hcz17_12
  try clear hcz17_13
  try clear hcz17_14
  try clear hcz17_15
  try clear hcz17_16
  try clear hcz17_17
  try clear hcz17_18
  try clear hcz17_19
  try clear hcz17_2
  try clear hcz17_20
  try clear hcz17_21
  try clear hcz17_3
  try clear hcz17_4
  try clear hcz17_5
  try clear hcz17_6
  try clear hcz17_7
  try clear hcz17_8
  try clear hcz17_9
  try clear hx520_0
  try clear hx520_1
  try clear hx520_10
  try clear hx520_11
  try clear hx520_12
  try clear hx520_13
  try clear hx520_14
  try clear hx520_15
  try clear hx520_16
  try clear hx520_17
  try clear hx520_18
  try clear hx520_19
  try clear hx520_2
  try clear hx520_20
  try clear hx520_21
  try clear hx520_22
  try clear hx520_3
  try clear hx520_4
  try clear hx520_5
  try clear hx520_6
  try clear hx520_7
  try clear hx520_8
  try clear hx520_9
  try clear p2
  try clear p5
  try clear p520
  try clear q5
  try clear q520
  obtain ⟨kq, HA, HJ21, BK521, HB⟩ := hcut
  cases kq with
  | zero => exact absurd HA.out (by simp [j5])
  | succ kj21 =>
  have H := HA.out
  clear HA
  simp only [j5] at H
  replace H := Option.bind_eq_some_iff.mp H
  obtain ⟨⟨t528, t531⟩, A240, H⟩ := H
  replace H : ((gangwaylaw20_num.f t531).bind fun t532 => (if t532 = 0 then (if (t528.length : Int) = 64 then (if ((rd_T35 l0 x3_1).f1.f0) = 1 then (if 32 < (t528.length : Int) then (if 33 < (t528.length : Int) then (j6 kj21 l0 x3_1 ((wrap64 ((wrap64 (rd t528 32)) + (wrap64 ((wrap64 (rd t528 33)) * 256)))) != (((rd_T35 l0 x3_1).f1.f1).length : Int)) ((rd_T35 l0 x3_1).f0.f0) ((rd_T35 l0 x3_1).f0.f1) ((rd_T35 l0 x3_1).f0.f2) ((rd_T35 l0 x3_1).f0.f3) ((rd_T35 l0 x3_1).f0.f4) ((rd_T35 l0 x3_1).f0.f5) ((rd_T35 l0 x3_1).f0.f6) ((rd_T35 l0 x3_1).f1.f0) ((rd_T35 l0 x3_1).f1.f1) ((rd_T35 l0 x3_1).f1.f2) ((rd_T35 l0 x3_1).f1.f3) ((rd_T35 l0 x3_1).f1.f4) ((rd_T35 l0 x3_1).f1.f5) ((rd_T35 l0 x3_1).f2) ((rd_T35 l0 x3_1).f3) ((rd_T35 l0 x3_1).f4) ((rd_T35 l0 x3_1).f5) ((rd_T35 l0 x3_1).f6) ((rd_T35 l0 x3_1).f7.f0) ((rd_T35 l0 x3_1).f7.f1) ((rd_T35 l0 x3_1).f7.f2) ((rd_T35 l0 x3_1).f7.f3) ((rd_T35 l0 x3_1).f8)) else (none)) else (none)) else (j6 kj21 l0 x3_1 false ((rd_T35 l0 x3_1).f0.f0) ((rd_T35 l0 x3_1).f0.f1) ((rd_T35 l0 x3_1).f0.f2) ((rd_T35 l0 x3_1).f0.f3) ((rd_T35 l0 x3_1).f0.f4) ((rd_T35 l0 x3_1).f0.f5) ((rd_T35 l0 x3_1).f0.f6) ((rd_T35 l0 x3_1).f1.f0) ((rd_T35 l0 x3_1).f1.f1) ((rd_T35 l0 x3_1).f1.f2) ((rd_T35 l0 x3_1).f1.f3) ((rd_T35 l0 x3_1).f1.f4) ((rd_T35 l0 x3_1).f1.f5) ((rd_T35 l0 x3_1).f2) ((rd_T35 l0 x3_1).f3) ((rd_T35 l0 x3_1).f4) ((rd_T35 l0 x3_1).f5) ((rd_T35 l0 x3_1).f6) ((rd_T35 l0 x3_1).f7.f0) ((rd_T35 l0 x3_1).f7.f1) ((rd_T35 l0 x3_1).f7.f2) ((rd_T35 l0 x3_1).f7.f3) ((rd_T35 l0 x3_1).f8))) else (j6 kj21 l0 x3_1 true ((rd_T35 l0 x3_1).f0.f0) ((rd_T35 l0 x3_1).f0.f1) ((rd_T35 l0 x3_1).f0.f2) ((rd_T35 l0 x3_1).f0.f3) ((rd_T35 l0 x3_1).f0.f4) ((rd_T35 l0 x3_1).f0.f5) ((rd_T35 l0 x3_1).f0.f6) ((rd_T35 l0 x3_1).f1.f0) ((rd_T35 l0 x3_1).f1.f1) ((rd_T35 l0 x3_1).f1.f2) ((rd_T35 l0 x3_1).f1.f3) ((rd_T35 l0 x3_1).f1.f4) ((rd_T35 l0 x3_1).f1.f5) ((rd_T35 l0 x3_1).f2) ((rd_T35 l0 x3_1).f3) ((rd_T35 l0 x3_1).f4) ((rd_T35 l0 x3_1).f5) ((rd_T35 l0 x3_1).f6) ((rd_T35 l0 x3_1).f7.f0) ((rd_T35 l0 x3_1).f7.f1) ((rd_T35 l0 x3_1).f7.f2) ((rd_T35 l0 x3_1).f7.f3) ((rd_T35 l0 x3_1).f8))) else (j6 kj21 l0 x3_1 false ((rd_T35 l0 x3_1).f0.f0) ((rd_T35 l0 x3_1).f0.f1) ((rd_T35 l0 x3_1).f0.f2) ((rd_T35 l0 x3_1).f0.f3) ((rd_T35 l0 x3_1).f0.f4) ((rd_T35 l0 x3_1).f0.f5) ((rd_T35 l0 x3_1).f0.f6) ((rd_T35 l0 x3_1).f1.f0) ((rd_T35 l0 x3_1).f1.f1) ((rd_T35 l0 x3_1).f1.f2) ((rd_T35 l0 x3_1).f1.f3) ((rd_T35 l0 x3_1).f1.f4) ((rd_T35 l0 x3_1).f1.f5) ((rd_T35 l0 x3_1).f2) ((rd_T35 l0 x3_1).f3) ((rd_T35 l0 x3_1).f4) ((rd_T35 l0 x3_1).f5) ((rd_T35 l0 x3_1).f6) ((rd_T35 l0 x3_1).f7.f0) ((rd_T35 l0 x3_1).f7.f1) ((rd_T35 l0 x3_1).f7.f2) ((rd_T35 l0 x3_1).f7.f3) ((rd_T35 l0 x3_1).f8)))) = some r := H
  have A24 := Aside0.mk A240
  clear A240
  have HC25 := Aside0.mk H
  clear H
  have hcz26_0 : wc.cell? ⟨gb521, 0, none⟩ = some (.int .i64 ((rd_T35 l0 x3_1).f0.f0)) := bc BK521 0
  have hcz26_1 : wc.cell? ⟨gb521, 1, none⟩ = some (.int .i64 ((rd_T35 l0 x3_1).f0.f1)) := bc BK521 1
  have hcz26_2 : wc.cell? ⟨gb521, 2, none⟩ = some (.int .i64 ((rd_T35 l0 x3_1).f0.f2)) := bc BK521 2
  have hcz26_3 : wc.cell? ⟨gb521, 3, none⟩ = some (.int .i64 ((rd_T35 l0 x3_1).f0.f3)) := bc BK521 3
  have hcz26_4 : wc.cell? ⟨gb521, 4, none⟩ = some (.int .i64 ((rd_T35 l0 x3_1).f0.f4)) := bc BK521 4
  have hcz26_5 : wc.cell? ⟨gb521, 5, none⟩ = some (.int .i64 ((rd_T35 l0 x3_1).f0.f5)) := bc BK521 5
  have hcz26_6 : wc.cell? ⟨gb521, 6, none⟩ = some (.string ((rd_T35 l0 x3_1).f0.f6)) := bc BK521 6
  have hcz26_7 : wc.cell? ⟨gb521, 7, none⟩ = some (.int .i64 ((rd_T35 l0 x3_1).f1.f0)) := bc BK521 7
  have hcz26_8 : wc.cell? ⟨gb521, 8, none⟩ = some (.slice A520_8 ((rd_T35 l0 x3_1).f1.f1).length c520_8) := bc BK521 8
  have hcz26_9 : wc.cell? ⟨gb521, 9, none⟩ = some (.slice A520_9 ((rd_T35 l0 x3_1).f1.f2).length c520_9) := bc BK521 9
  have hcz26_10 : wc.cell? ⟨gb521, 10, none⟩ = some (.string ((rd_T35 l0 x3_1).f1.f3)) := bc BK521 10
  have hcz26_11 : wc.cell? ⟨gb521, 11, none⟩ = some (.int .i64 ((rd_T35 l0 x3_1).f1.f4)) := bc BK521 11
  have hcz26_12 : wc.cell? ⟨gb521, 12, none⟩ = some (.int .i64 ((rd_T35 l0 x3_1).f1.f5)) := bc BK521 12
  have hcz26_13 : wc.cell? ⟨gb521, 13, none⟩ = some (.int .i64 ((rd_T35 l0 x3_1).f2)) := bc BK521 13
  have hcz26_14 : wc.cell? ⟨gb521, 14, none⟩ = some (.string ((rd_T35 l0 x3_1).f3)) := bc BK521 14
  have hcz26_15 : wc.cell? ⟨gb521, 15, none⟩ = some (.int .i64 ((rd_T35 l0 x3_1).f4)) := bc BK521 15
  have hcz26_16 : wc.cell? ⟨gb521, 16, none⟩ = some (.int .i64 ((rd_T35 l0 x3_1).f5)) := bc BK521 16
  have hcz26_17 : wc.cell? ⟨gb521, 17, none⟩ = some (.int .i64 ((rd_T35 l0 x3_1).f6)) := bc BK521 17
  have hcz26_18 : wc.cell? ⟨gb521, 18, none⟩ = some (.int .i64 ((rd_T35 l0 x3_1).f7.f0)) := bc BK521 18
  have hcz26_19 : wc.cell? ⟨gb521, 19, none⟩ = some (.int .i64 ((rd_T35 l0 x3_1).f7.f1)) := bc BK521 19
  have hcz26_20 : wc.cell? ⟨gb521, 20, none⟩ = some (.int .i64 ((rd_T35 l0 x3_1).f7.f2)) := bc BK521 20
  have hcz26_21 : wc.cell? ⟨gb521, 21, none⟩ = some (.int .i64 ((rd_T35 l0 x3_1).f7.f3)) := bc BK521 21
  go_upto_region 11 with (first | ((with_reducible refine gate_callee (f := 24) rfl ?_); refine goesL_ (some 42) rfl rfl Try.func24 (by kernel_rfl) rfl #[.agg #[.int .i64 ((rd_T35 l0 x3_1).f1.f0), .slice A520_8 ((rd_T35 l0 x3_1).f1.f1).length c520_8, .slice A520_9 ((rd_T35 l0 x3_1).f1.f2).length c520_9, .string ((rd_T35 l0 x3_1).f1.f3), .int .i64 ((rd_T35 l0 x3_1).f1.f4), .int .i64 ((rd_T35 l0 x3_1).f1.f5)], .int .i64 ((rd_T35 l0 x3_1).f2)] rfl (by (try simp only [List.map_toArray, List.map_cons, List.map_nil]); first | done | rfl | (simp only [List.length_drop, List.length_take]; rfl)) ?_; (with_reducible refine (stat_Filestat.calls kj21 ((rd_T35 l0 x3_1).f1.f0) _ _ ((rd_T35 l0 x3_1).f1.f1) _ _ ((rd_T35 l0 x3_1).f1.f2) ((rd_T35 l0 x3_1).f1.f3) ((rd_T35 l0 x3_1).f1.f4) ((rd_T35 l0 x3_1).f1.f5) ((rd_T35 l0 x3_1).f2) t528 t531 _ ?side1 ?side2 ?side3 ?side4 A24.out).mono ?_); (case side1 => repeat (first | exact (Kd.C_below HR520_8.out HB.out) | (with_reducible refine Kd.C_alloc ?_ _) | (with_reducible refine Kd.C_drewN ?_ _) | (with_reducible refine Kd.C_drew ?_))); (case side2 => exact HC520_8.out); (case side3 => repeat (first | exact (Kd.C_below HR520_9.out HB.out) | (with_reducible refine Kd.C_alloc ?_ _) | (with_reducible refine Kd.C_drewN ?_ _) | (with_reducible refine Kd.C_drew ?_))); (case side4 => exact HC520_9.out); rintro e w27 ⟨v529, rfl, ho0, hb⟩; refine ⟨_, rfl, ?_⟩; have n0_ := Aside0.mk (Kd.R_lower ho0 (below_size (by repeat (first | (with_reducible first | exact HB.out | apply below_alloc | apply pw_below_drewN | apply below_drew1 | refine below_set ?_ GE521.out) | exact HB.out)))); have n1_ := Aside0.mk (bbelow BK521 (by (with_reducible repeat (first | refine blk_drewN ?_ _ | refine blk_drew ?_ | refine blk_alloc ?_ _)); exact BK521.out) hb); have n2_ := Aside0.mk (below_step (by repeat (first | (with_reducible first | exact HB.out | apply below_alloc | apply pw_below_drewN | apply below_drew1 | refine below_set ?_ GE521.out) | exact HB.out)) hb); clear BK521; clear HB; have HO530 := n0_; have BK521 := n1_; have HB := n2_; clear n0_ n1_ n2_; (try clear hb); (try clear hb2); (try clear hk); (try clear hi); (try clear ho0)))
  (try simp only [Act.put, e1, e2, e3])
  go_cut [75] (fun v75 wc => ∃ (kq : Nat) (x75_24 : Bool), v75 = .bool x75_24 ∧ Aside0 (j6 kq l0 x3_1 x75_24 ((rd_T35 l0 x3_1).f0.f0) ((rd_T35 l0 x3_1).f0.f1) ((rd_T35 l0 x3_1).f0.f2) ((rd_T35 l0 x3_1).f0.f3) ((rd_T35 l0 x3_1).f0.f4) ((rd_T35 l0 x3_1).f0.f5) ((rd_T35 l0 x3_1).f0.f6) ((rd_T35 l0 x3_1).f1.f0) ((rd_T35 l0 x3_1).f1.f1) ((rd_T35 l0 x3_1).f1.f2) ((rd_T35 l0 x3_1).f1.f3) ((rd_T35 l0 x3_1).f1.f4) ((rd_T35 l0 x3_1).f1.f5) ((rd_T35 l0 x3_1).f2) ((rd_T35 l0 x3_1).f3) ((rd_T35 l0 x3_1).f4) ((rd_T35 l0 x3_1).f5) ((rd_T35 l0 x3_1).f6) ((rd_T35 l0 x3_1).f7.f0) ((rd_T35 l0 x3_1).f7.f1) ((rd_T35 l0 x3_1).f7.f2) ((rd_T35 l0 x3_1).f7.f3) ((rd_T35 l0 x3_1).f8) = some r) ∧ Aside0 (kq ≤ kj21) ∧ Aside0 (wc.heap[gb521]? = some (.cells #[.int .i64 ((rd_T35 l0 x3_1).f0.f0), .int .i64 ((rd_T35 l0 x3_1).f0.f1), .int .i64 ((rd_T35 l0 x3_1).f0.f2), .int .i64 ((rd_T35 l0 x3_1).f0.f3), .int .i64 ((rd_T35 l0 x3_1).f0.f4), .int .i64 ((rd_T35 l0 x3_1).f0.f5), .string ((rd_T35 l0 x3_1).f0.f6), .int .i64 ((rd_T35 l0 x3_1).f1.f0), (.slice A520_8 ((rd_T35 l0 x3_1).f1.f1).length c520_8), (.slice A520_9 ((rd_T35 l0 x3_1).f1.f2).length c520_9), .string ((rd_T35 l0 x3_1).f1.f3), .int .i64 ((rd_T35 l0 x3_1).f1.f4), .int .i64 ((rd_T35 l0 x3_1).f1.f5), .int .i64 ((rd_T35 l0 x3_1).f2), .string ((rd_T35 l0 x3_1).f3), .int .i64 ((rd_T35 l0 x3_1).f4), .int .i64 ((rd_T35 l0 x3_1).f5), .int .i64 ((rd_T35 l0 x3_1).f6), .int .i64 ((rd_T35 l0 x3_1).f7.f0), .int .i64 ((rd_T35 l0 x3_1).f7.f1), .int .i64 ((rd_T35 l0 x3_1).f7.f2), .int .i64 ((rd_T35 l0 x3_1).f7.f3), (.slice A520_22 ((rd_T35 l0 x3_1).f8).length c520_22)] 35 (0, 0))) ∧ Aside0 (Below w.heap.size w wc))
  case first =>
   have H := HC25.out
   clear HC25
   replace H := Option.bind_eq_some_iff.mp H
   obtain ⟨t532, A280, H⟩ := H
   replace H : (if t532 = 0 then (if (t528.length : Int) = 64 then (if ((rd_T35 l0 x3_1).f1.f0) = 1 then (if 32 < (t528.length : Int) then (if 33 < (t528.length : Int) then (j6 kj21 l0 x3_1 ((wrap64 ((wrap64 (rd t528 32)) + (wrap64 ((wrap64 (rd t528 33)) * 256)))) != (((rd_T35 l0 x3_1).f1.f1).length : Int)) ((rd_T35 l0 x3_1).f0.f0) ((rd_T35 l0 x3_1).f0.f1) ((rd_T35 l0 x3_1).f0.f2) ((rd_T35 l0 x3_1).f0.f3) ((rd_T35 l0 x3_1).f0.f4) ((rd_T35 l0 x3_1).f0.f5) ((rd_T35 l0 x3_1).f0.f6) ((rd_T35 l0 x3_1).f1.f0) ((rd_T35 l0 x3_1).f1.f1) ((rd_T35 l0 x3_1).f1.f2) ((rd_T35 l0 x3_1).f1.f3) ((rd_T35 l0 x3_1).f1.f4) ((rd_T35 l0 x3_1).f1.f5) ((rd_T35 l0 x3_1).f2) ((rd_T35 l0 x3_1).f3) ((rd_T35 l0 x3_1).f4) ((rd_T35 l0 x3_1).f5) ((rd_T35 l0 x3_1).f6) ((rd_T35 l0 x3_1).f7.f0) ((rd_T35 l0 x3_1).f7.f1) ((rd_T35 l0 x3_1).f7.f2) ((rd_T35 l0 x3_1).f7.f3) ((rd_T35 l0 x3_1).f8)) else (none)) else (none)) else (j6 kj21 l0 x3_1 false ((rd_T35 l0 x3_1).f0.f0) ((rd_T35 l0 x3_1).f0.f1) ((rd_T35 l0 x3_1).f0.f2) ((rd_T35 l0 x3_1).f0.f3) ((rd_T35 l0 x3_1).f0.f4) ((rd_T35 l0 x3_1).f0.f5) ((rd_T35 l0 x3_1).f0.f6) ((rd_T35 l0 x3_1).f1.f0) ((rd_T35 l0 x3_1).f1.f1) ((rd_T35 l0 x3_1).f1.f2) ((rd_T35 l0 x3_1).f1.f3) ((rd_T35 l0 x3_1).f1.f4) ((rd_T35 l0 x3_1).f1.f5) ((rd_T35 l0 x3_1).f2) ((rd_T35 l0 x3_1).f3) ((rd_T35 l0 x3_1).f4) ((rd_T35 l0 x3_1).f5) ((rd_T35 l0 x3_1).f6) ((rd_T35 l0 x3_1).f7.f0) ((rd_T35 l0 x3_1).f7.f1) ((rd_T35 l0 x3_1).f7.f2) ((rd_T35 l0 x3_1).f7.f3) ((rd_T35 l0 x3_1).f8))) else (j6 kj21 l0 x3_1 true ((rd_T35 l0 x3_1).f0.f0) ((rd_T35 l0 x3_1).f0.f1) ((rd_T35 l0 x3_1).f0.f2) ((rd_T35 l0 x3_1).f0.f3) ((rd_T35 l0 x3_1).f0.f4) ((rd_T35 l0 x3_1).f0.f5) ((rd_T35 l0 x3_1).f0.f6) ((rd_T35 l0 x3_1).f1.f0) ((rd_T35 l0 x3_1).f1.f1) ((rd_T35 l0 x3_1).f1.f2) ((rd_T35 l0 x3_1).f1.f3) ((rd_T35 l0 x3_1).f1.f4) ((rd_T35 l0 x3_1).f1.f5) ((rd_T35 l0 x3_1).f2) ((rd_T35 l0 x3_1).f3) ((rd_T35 l0 x3_1).f4) ((rd_T35 l0 x3_1).f5) ((rd_T35 l0 x3_1).f6) ((rd_T35 l0 x3_1).f7.f0) ((rd_T35 l0 x3_1).f7.f1) ((rd_T35 l0 x3_1).f7.f2) ((rd_T35 l0 x3_1).f7.f3) ((rd_T35 l0 x3_1).f8))) else (j6 kj21 l0 x3_1 false ((rd_T35 l0 x3_1).f0.f0) ((rd_T35 l0 x3_1).f0.f1) ((rd_T35 l0 x3_1).f0.f2) ((rd_T35 l0 x3_1).f0.f3) ((rd_T35 l0 x3_1).f0.f4) ((rd_T35 l0 x3_1).f0.f5) ((rd_T35 l0 x3_1).f0.f6) ((rd_T35 l0 x3_1).f1.f0) ((rd_T35 l0 x3_1).f1.f1) ((rd_T35 l0 x3_1).f1.f2) ((rd_T35 l0 x3_1).f1.f3) ((rd_T35 l0 x3_1).f1.f4) ((rd_T35 l0 x3_1).f1.f5) ((rd_T35 l0 x3_1).f2) ((rd_T35 l0 x3_1).f3) ((rd_T35 l0 x3_1).f4) ((rd_T35 l0 x3_1).f5) ((rd_T35 l0 x3_1).f6) ((rd_T35 l0 x3_1).f7.f0) ((rd_T35 l0 x3_1).f7.f1) ((rd_T35 l0 x3_1).f7.f2) ((rd_T35 l0 x3_1).f7.f3) ((rd_T35 l0 x3_1).f8))) = some r := H
   have A28 := Aside0.mk A280
   clear A280
   by_cases c29 : t532 = 0
   rotate_left
   ·as_aux_lemma =>
    rw [if_neg c29] at H
    have c29b0 : (t532 == 0) = false := beq_eq_false_iff_ne.mpr c29
    have c29b1 : (t532 != 0) = true := bne_iff_ne.mpr c29
    (first | rw [c29b0] | (simp only [i64_w, i32_w]; rw [c29b0]) | skip)
    have H' := Aside0.mk H
    clear H
    try go_wp2
    have n0_ := Aside0.mk (Kd.R_drew HO530.out)
    have n1_ := Aside0.mk (blk_drew BK521.out)
    have n2_ := Aside0.mk (below_drew1 HB.out)
    clear HO530
    clear BK521
    clear HB
    have HO530 := n0_
    have BK521 := n1_
    have HB := n2_
    clear n0_ n1_ n2_
    refine start_ (n := 31) (S := fun w' => True) (ds := []) bb97_ (by kernel_rfl) rfl rfl trivial (fun hHeld => ?_); refine with_tabW gangwaylaw20_StatLengths.tab11 gangwaylaw20_StatLengths.bits11 (fun HT_ HW_ => ?_)
    generalize w27.drew = w40 at HO530 BK521 HB hHeld ⊢
    refine pure_ (i := 0) (N := some 45) (v := ?_) (a' := ?_) bb96_ rfl rfl (any_of HT_.out (by kernel_rfl)) (fun _ _ _ h => h) (Or.inl ⟨by rfl, ?_⟩) ?_ ?_
    rotate_left; · intro w'; go_simp; with_reducible rfl
    rotate_left; · simp only [Act.put, e1, e2, e3, i64_w, i32_w]; rfl
    refine one_ (i := 1) (N := some 46) bb95_ rfl rfl (one_of HT_.out (by kernel_rfl)) (by decide) (fun K hK => ?_)
    refine goes_ Try.func19 (by kernel_rfl) rfl #[.int .i64 t531] (by rfl) rfl rfl (by (try simp only [List.map_toArray, List.map_cons, List.map_nil]); first | done | rfl | (simp only [List.length_drop, List.length_take]; rfl)) ?_
    with_reducible refine (gangwaylaw20_num.calls t531 t532 _ A28.out).mono ?_
    rintro e w' ⟨rfl, ⟨nd, rfl⟩⟩
    refine ⟨_, rfl, ?_⟩
    refine hK.out _ _ trivial (fun hHeld => ?_)
    clear hK K
    refine norm_ (a' := ?_) ?_ ?_
    rotate_left
    ·show Act.put _ (some 46) _ = _
     simp only [Act.put, e1, e2, e3, i64_w, i32_w]
     rfl
    refine pure_ (i := 2) (N := some 47) (v := ?_) (a' := ?_) bb94_ rfl rfl (any_of HT_.out (by kernel_rfl)) (fun _ _ _ h => h) (Or.inl ⟨by rfl, ?_⟩) ?_ ?_
    rotate_left; · intro w'; go_simp; with_reducible rfl
    rotate_left; · simp only [Act.put, e1, e2, e3, i64_w, i32_w]; rfl
    refine pure_ (i := 3) (N := some 48) (v := ?_) (a' := ?_) bb93_ rfl rfl (any_of HT_.out (by kernel_rfl)) (fun _ _ _ h => h) (Or.inl ⟨by rfl, ?_⟩) ?_ ?_
    rotate_left; · intro w'; go_simp; with_reducible rfl
    rotate_left; · simp only [Act.put, e1, e2, e3, i64_w, i32_w]; rfl
    refine pure_ (i := 4) (N := some 49) (v := undef) (a' := ?_) bb92_ rfl rfl (any_of HT_.out (by kernel_rfl)) (fun _ _ _ h => h) (Or.inr ⟨by rfl, rfl⟩) ?_ ?_
    rotate_left; · simp only [Act.put, e1, e2, e3, i64_w, i32_w]; rfl
    refine pure_ (i := 5) (N := some 50) (v := undef) (a' := ?_) bb91_ rfl rfl (any_of HT_.out (by kernel_rfl)) (fun _ _ _ h => h) (Or.inr ⟨by rfl, rfl⟩) ?_ ?_
    rotate_left; · simp only [Act.put, e1, e2, e3, i64_w, i32_w]; rfl
    refine pure_ (i := 6) (N := some 51) (v := undef) (a' := ?_) bb90_ rfl rfl (any_of HT_.out (by kernel_rfl)) (fun _ _ _ h => h) (Or.inr ⟨by rfl, rfl⟩) ?_ ?_
    rotate_left; · simp only [Act.put, e1, e2, e3, i64_w, i32_w]; rfl
    refine pure_ (i := 7) (N := some 52) (v := undef) (a' := ?_) bb88_ rfl rfl (any_of HT_.out (by kernel_rfl)) (fun _ _ _ h => h) (Or.inr ⟨by rfl, rfl⟩) ?_ ?_
    rotate_left; · simp only [Act.put, e1, e2, e3, i64_w, i32_w]; rfl
    refine pure_ (i := 8) (N := some 53) (v := undef) (a' := ?_) bb86_ rfl rfl (any_of HT_.out (by kernel_rfl)) (fun _ _ _ h => h) (Or.inr ⟨by rfl, rfl⟩) ?_ ?_
    rotate_left; · simp only [Act.put, e1, e2, e3, i64_w, i32_w]; rfl
    refine pure_ (i := 9) (N := some 54) (v := undef) (a' := ?_) bb84_ rfl rfl (any_of HT_.out (by kernel_rfl)) (fun _ _ _ h => h) (Or.inr ⟨by rfl, rfl⟩) ?_ ?_
    rotate_left; · simp only [Act.put, e1, e2, e3, i64_w, i32_w]; rfl
    refine pure_ (i := 10) (N := some 55) (v := undef) (a' := ?_) bb82_ rfl rfl (any_of HT_.out (by kernel_rfl)) (fun _ _ _ h => h) (Or.inr ⟨by rfl, rfl⟩) ?_ ?_
    rotate_left; · simp only [Act.put, e1, e2, e3, i64_w, i32_w]; rfl
    refine pure_ (i := 11) (N := some 56) (v := undef) (a' := ?_) bb80_ rfl rfl (any_of HT_.out (by kernel_rfl)) (fun _ _ _ h => h) (Or.inr ⟨by rfl, rfl⟩) ?_ ?_
    rotate_left; · simp only [Act.put, e1, e2, e3, i64_w, i32_w]; rfl
    refine pure_ (i := 12) (N := some 57) (v := undef) (a' := ?_) bb78_ rfl rfl (any_of HT_.out (by kernel_rfl)) (fun _ _ _ h => h) (Or.inr ⟨by rfl, rfl⟩) ?_ ?_
    rotate_left; · simp only [Act.put, e1, e2, e3, i64_w, i32_w]; rfl
    refine pure_ (i := 13) (N := some 58) (v := undef) (a' := ?_) bb76_ rfl rfl (any_of HT_.out (by kernel_rfl)) (fun _ _ _ h => h) (Or.inr ⟨by rfl, rfl⟩) ?_ ?_
    rotate_left; · simp only [Act.put, e1, e2, e3, i64_w, i32_w]; rfl
    refine pure_ (i := 14) (N := some 59) (v := undef) (a' := ?_) bb74_ rfl rfl (any_of HT_.out (by kernel_rfl)) (fun _ _ _ h => h) (Or.inr ⟨by rfl, rfl⟩) ?_ ?_
    rotate_left; · simp only [Act.put, e1, e2, e3, i64_w, i32_w]; rfl
    refine pure_ (i := 15) (N := some 60) (v := undef) (a' := ?_) bb72_ rfl rfl (any_of HT_.out (by kernel_rfl)) (fun _ _ _ h => h) (Or.inr ⟨by rfl, rfl⟩) ?_ ?_
    rotate_left; · simp only [Act.put, e1, e2, e3, i64_w, i32_w]; rfl
    refine pure_ (i := 16) (N := some 61) (v := undef) (a' := ?_) bb69_ rfl rfl (any_of HT_.out (by kernel_rfl)) (fun _ _ _ h => h) (Or.inr ⟨by rfl, rfl⟩) ?_ ?_
    rotate_left; · simp only [Act.put, e1, e2, e3, i64_w, i32_w]; rfl
    refine pure_ (i := 17) (N := some 62) (v := undef) (a' := ?_) bb66_ rfl rfl (any_of HT_.out (by kernel_rfl)) (fun _ _ _ h => h) (Or.inr ⟨by rfl, rfl⟩) ?_ ?_
    rotate_left; · simp only [Act.put, e1, e2, e3, i64_w, i32_w]; rfl
    refine pure_ (i := 18) (N := some 63) (v := undef) (a' := ?_) bb62_ rfl rfl (any_of HT_.out (by kernel_rfl)) (fun _ _ _ h => h) (Or.inr ⟨by rfl, rfl⟩) ?_ ?_
    rotate_left; · simp only [Act.put, e1, e2, e3, i64_w, i32_w]; rfl
    refine pure_ (i := 19) (N := some 64) (v := undef) (a' := ?_) bb58_ rfl rfl (any_of HT_.out (by kernel_rfl)) (fun _ _ _ h => h) (Or.inr ⟨by rfl, rfl⟩) ?_ ?_
    rotate_left; · simp only [Act.put, e1, e2, e3, i64_w, i32_w]; rfl
    refine pure_ (i := 20) (N := some 65) (v := undef) (a' := ?_) bb54_ rfl rfl (any_of HT_.out (by kernel_rfl)) (fun _ _ _ h => h) (Or.inr ⟨by rfl, rfl⟩) ?_ ?_
    rotate_left; · simp only [Act.put, e1, e2, e3, i64_w, i32_w]; rfl
    refine pure_ (i := 21) (N := some 66) (v := undef) (a' := ?_) bb51_ rfl rfl (any_of HT_.out (by kernel_rfl)) (fun _ _ _ h => h) (Or.inr ⟨by rfl, rfl⟩) ?_ ?_
    rotate_left; · simp only [Act.put, e1, e2, e3, i64_w, i32_w]; rfl
    refine pure_ (i := 22) (N := some 67) (v := undef) (a' := ?_) bb48_ rfl rfl (any_of HT_.out (by kernel_rfl)) (fun _ _ _ h => h) (Or.inr ⟨by rfl, rfl⟩) ?_ ?_
    rotate_left; · simp only [Act.put, e1, e2, e3, i64_w, i32_w]; rfl
    refine pure_ (i := 23) (N := some 68) (v := undef) (a' := ?_) bb45_ rfl rfl (any_of HT_.out (by kernel_rfl)) (fun _ _ _ h => h) (Or.inr ⟨by rfl, rfl⟩) ?_ ?_
    rotate_left; · simp only [Act.put, e1, e2, e3, i64_w, i32_w]; rfl
    refine pure_ (i := 24) (N := some 69) (v := undef) (a' := ?_) bb42_ rfl rfl (any_of HT_.out (by kernel_rfl)) (fun _ _ _ h => h) (Or.inr ⟨by rfl, rfl⟩) ?_ ?_
    rotate_left; · simp only [Act.put, e1, e2, e3, i64_w, i32_w]; rfl
    refine pure_ (i := 25) (N := some 70) (v := undef) (a' := ?_) bb40_ rfl rfl (any_of HT_.out (by kernel_rfl)) (fun _ _ _ h => h) (Or.inr ⟨by rfl, rfl⟩) ?_ ?_
    rotate_left; · simp only [Act.put, e1, e2, e3, i64_w, i32_w]; rfl
    refine pure_ (i := 26) (N := some 71) (v := undef) (a' := ?_) bb38_ rfl rfl (any_of HT_.out (by kernel_rfl)) (fun _ _ _ h => h) (Or.inr ⟨by rfl, rfl⟩) ?_ ?_
    rotate_left; · simp only [Act.put, e1, e2, e3, i64_w, i32_w]; rfl
    refine pure_ (i := 27) (N := some 72) (v := undef) (a' := ?_) bb36_ rfl rfl (any_of HT_.out (by kernel_rfl)) (fun _ _ _ h => h) (Or.inr ⟨by rfl, rfl⟩) ?_ ?_
    rotate_left; · simp only [Act.put, e1, e2, e3, i64_w, i32_w]; rfl
    refine pure_ (i := 28) (N := some 73) (v := undef) (a' := ?_) bb34_ rfl rfl (any_of HT_.out (by kernel_rfl)) (fun _ _ _ h => h) (Or.inr ⟨by rfl, rfl⟩) ?_ ?_
    rotate_left; · simp only [Act.put, e1, e2, e3, i64_w, i32_w]; rfl
    refine pure_ (i := 29) (N := some 74) (v := undef) (a' := ?_) bb32_ rfl rfl (any_of HT_.out (by kernel_rfl)) (fun _ _ _ h => h) (Or.inr ⟨by rfl, rfl⟩) ?_ ?_
    rotate_left; · simp only [Act.put, e1, e2, e3, i64_w, i32_w]; rfl
    refine pure_ (i := 30) (N := some 75) (v := ?_) (a' := ?_) bb30_ rfl rfl (any_of HT_.out (by kernel_rfl)) (fun _ _ _ h => h) (Or.inl ⟨by rfl, ?_⟩) ?_ ?_
    rotate_left; · intro w'; go_simp; with_reducible rfl
    rotate_left; · simp only [Act.put, e1, e2, e3, i64_w, i32_w]; rfl
    refine done_ (done_of HT_.out (by kernel_rfl)) ?_
    try go_wp2
    go_meet
    case rel => exact ⟨_, (false), (by first | rfl | (simp; done) | (simp [*]; done)), H', ⟨by have := HK1.out; have := HJ2.out; have := HJ4.out; have := HJ9.out; have := HJ15.out; have := HJ21.out; first | omega | exact Nat.le_refl _⟩, ⟨by (with_reducible repeat (first | refine blk_drewN ?_ _ | refine blk_drew ?_ | refine blk_alloc ?_ _)); exact BK521.out⟩, ⟨by repeat (first | (with_reducible first | exact HB.out | apply below_alloc | apply pw_below_drewN | apply below_drew1 | refine below_set ?_ GE521.out) | exact HB.out)⟩⟩
   as_aux_lemma =>
   rw [if_pos c29] at H
   have c29b0 : (t532 == 0) = true := beq_iff_eq.mpr c29
   have c29b1 : (t532 != 0) = false := bne_eq_false_iff_eq.mpr c29
   clear c29
   (first | rw [c29b0] | (simp only [i64_w, i32_w]; rw [c29b0]) | skip)
   by_cases c30 : (t528.length : Int) = 64
   rotate_left
   ·as_aux_lemma =>
    rw [if_neg c30] at H
    have c30b0 : ((t528.length : Int) == 64) = false := beq_eq_false_iff_ne.mpr c30
    have c30b1 : ((t528.length : Int) != 64) = true := bne_iff_ne.mpr c30
    have H' := Aside0.mk H
    clear H
    try go_wp2
    have n0_ := Aside0.mk (Kd.R_drew HO530.out)
    have n1_ := Aside0.mk (blk_drew BK521.out)
    have n2_ := Aside0.mk (below_drew1 HB.out)
    clear HO530
    clear BK521
    clear HB
    have HO530 := n0_
    have BK521 := n1_
    have HB := n2_
    clear n0_ n1_ n2_
    obtain ⟨Ao39, co39, eo39⟩ := Kd.R_slice HO530.out
    (first | subst eo39 | (injection eo39 with f1_ f2_ f3_; have f4_ := f1_.symm; have f5_ := f3_.symm; clear f1_ f2_ f3_; subst f4_; subst f5_))
    refine start_ (n := 31) (S := fun w' => True) (ds := []) bb97_ (by kernel_rfl) rfl rfl trivial (fun hHeld => ?_); refine with_tabW gangwaylaw20_StatLengths.tab11 gangwaylaw20_StatLengths.bits11 (fun HT_ HW_ => ?_)
    generalize w27.drew = w38 at HO530 BK521 HB hHeld ⊢
    refine pure_ (i := 0) (N := some 45) (v := ?_) (a' := ?_) bb96_ rfl rfl (any_of HT_.out (by kernel_rfl)) (fun _ _ _ h => h) (Or.inl ⟨by rfl, ?_⟩) ?_ ?_
    rotate_left; · intro w'; go_simp; with_reducible rfl
    rotate_left; · simp only [Act.put, e1, e2, e3, i64_w, i32_w]; rfl
    refine one_ (i := 1) (N := some 46) bb95_ rfl rfl (one_of HT_.out (by kernel_rfl)) (by decide) (fun K hK => ?_)
    refine goes_ Try.func19 (by kernel_rfl) rfl #[.int .i64 t531] (by rfl) rfl rfl (by (try simp only [List.map_toArray, List.map_cons, List.map_nil]); first | done | rfl | (simp only [List.length_drop, List.length_take]; rfl)) ?_
    with_reducible refine (gangwaylaw20_num.calls t531 t532 _ A28.out).mono ?_
    rintro e w' ⟨rfl, ⟨nd, rfl⟩⟩
    refine ⟨_, rfl, ?_⟩
    refine hK.out _ _ trivial (fun hHeld => ?_)
    clear hK K
    refine norm_ (a' := ?_) ?_ ?_
    rotate_left
    ·show Act.put _ (some 46) _ = _
     simp only [Act.put, e1, e2, e3, i64_w, i32_w]
     rfl
    refine pure_ (i := 2) (N := some 47) (v := ?_) (a' := ?_) bb94_ rfl rfl (any_of HT_.out (by kernel_rfl)) (fun _ _ _ h => h) (Or.inl ⟨by rfl, ?_⟩) ?_ ?_
    rotate_left; · intro w'; go_simp; with_reducible rfl
    rotate_left; · simp only [Act.put, e1, e2, e3, i64_w, i32_w]; rfl
    refine pure_ (i := 3) (N := some 48) (v := ?_) (a' := ?_) bb93_ rfl rfl (any_of HT_.out (by kernel_rfl)) (fun _ _ _ h => h) (Or.inl ⟨by rfl, ?_⟩) ?_ ?_
    rotate_left; · intro w'; go_simp; with_reducible rfl
    rotate_left; · simp only [Act.put, e1, e2, e3, i64_w, i32_w]; rfl
    refine pure_ (i := 4) (N := some 49) (v := ?_) (a' := ?_) bb92_ rfl rfl (any_of HT_.out (by kernel_rfl)) (fun _ _ _ h => h) (Or.inl ⟨by rfl, ?_⟩) ?_ ?_
    rotate_left; · intro w'; go_simp; with_reducible rfl
    rotate_left; · simp only [Act.put, e1, e2, e3, i64_w, i32_w]; rfl
    refine pure_ (i := 5) (N := some 50) (v := ?_) (a' := ?_) bb91_ rfl rfl (any_of HT_.out (by kernel_rfl)) (fun _ _ _ h => h) (Or.inl ⟨by rfl, ?_⟩) ?_ ?_
    rotate_left; · intro w'; go_simp; with_reducible rfl
    rotate_left; · simp only [Act.put, e1, e2, e3, i64_w, i32_w]; rfl
    refine pure_ (i := 6) (N := some 51) (v := ?_) (a' := ?_) bb90_ rfl rfl (any_of HT_.out (by kernel_rfl)) (fun _ _ _ h => h) (Or.inl ⟨by rfl, ?_⟩) ?_ ?_
    rotate_left; · intro w'; go_simp; with_reducible rfl
    rotate_left; · simp only [Act.put, e1, e2, e3, i64_w, i32_w]; rfl
    refine pure_ (i := 7) (N := some 52) (v := ?_) (a' := ?_) bb88_ rfl rfl (any_of HT_.out (by kernel_rfl)) (fun _ _ _ h => h) (Or.inl ⟨by rfl, ?_⟩) ?_ ?_
    rotate_left; · intro w'; go_simp; with_reducible rfl
    rotate_left; · simp only [Act.put, e1, e2, e3, i64_w, i32_w]; rfl
    refine pure_ (i := 8) (N := some 53) (v := undef) (a' := ?_) bb86_ rfl rfl (any_of HT_.out (by kernel_rfl)) (fun _ _ _ h => h) (Or.inr ⟨by rfl, rfl⟩) ?_ ?_
    rotate_left; · simp only [Act.put, e1, e2, e3, i64_w, i32_w]; rfl
    refine pure_ (i := 9) (N := some 54) (v := undef) (a' := ?_) bb84_ rfl rfl (any_of HT_.out (by kernel_rfl)) (fun _ _ _ h => h) (Or.inr ⟨by rfl, rfl⟩) ?_ ?_
    rotate_left; · simp only [Act.put, e1, e2, e3, i64_w, i32_w]; rfl
    refine pure_ (i := 10) (N := some 55) (v := undef) (a' := ?_) bb82_ rfl rfl (any_of HT_.out (by kernel_rfl)) (fun _ _ _ h => h) (Or.inr ⟨by rfl, rfl⟩) ?_ ?_
    rotate_left; · simp only [Act.put, e1, e2, e3, i64_w, i32_w]; rfl
    refine pure_ (i := 11) (N := some 56) (v := undef) (a' := ?_) bb80_ rfl rfl (any_of HT_.out (by kernel_rfl)) (fun _ _ _ h => h) (Or.inr ⟨by rfl, rfl⟩) ?_ ?_
    rotate_left; · simp only [Act.put, e1, e2, e3, i64_w, i32_w]; rfl
    refine pure_ (i := 12) (N := some 57) (v := undef) (a' := ?_) bb78_ rfl rfl (any_of HT_.out (by kernel_rfl)) (fun _ _ _ h => h) (Or.inr ⟨by rfl, rfl⟩) ?_ ?_
    rotate_left; · simp only [Act.put, e1, e2, e3, i64_w, i32_w]; rfl
    refine pure_ (i := 13) (N := some 58) (v := undef) (a' := ?_) bb76_ rfl rfl (any_of HT_.out (by kernel_rfl)) (fun _ _ _ h => h) (Or.inr ⟨by rfl, rfl⟩) ?_ ?_
    rotate_left; · simp only [Act.put, e1, e2, e3, i64_w, i32_w]; rfl
    refine pure_ (i := 14) (N := some 59) (v := undef) (a' := ?_) bb74_ rfl rfl (any_of HT_.out (by kernel_rfl)) (fun _ _ _ h => h) (Or.inr ⟨by rfl, rfl⟩) ?_ ?_
    rotate_left; · simp only [Act.put, e1, e2, e3, i64_w, i32_w]; rfl
    refine pure_ (i := 15) (N := some 60) (v := undef) (a' := ?_) bb72_ rfl rfl (any_of HT_.out (by kernel_rfl)) (fun _ _ _ h => h) (Or.inr ⟨by rfl, rfl⟩) ?_ ?_
    rotate_left; · simp only [Act.put, e1, e2, e3, i64_w, i32_w]; rfl
    refine pure_ (i := 16) (N := some 61) (v := undef) (a' := ?_) bb69_ rfl rfl (any_of HT_.out (by kernel_rfl)) (fun _ _ _ h => h) (Or.inr ⟨by rfl, rfl⟩) ?_ ?_
    rotate_left; · simp only [Act.put, e1, e2, e3, i64_w, i32_w]; rfl
    refine pure_ (i := 17) (N := some 62) (v := undef) (a' := ?_) bb66_ rfl rfl (any_of HT_.out (by kernel_rfl)) (fun _ _ _ h => h) (Or.inr ⟨by rfl, rfl⟩) ?_ ?_
    rotate_left; · simp only [Act.put, e1, e2, e3, i64_w, i32_w]; rfl
    refine pure_ (i := 18) (N := some 63) (v := undef) (a' := ?_) bb62_ rfl rfl (any_of HT_.out (by kernel_rfl)) (fun _ _ _ h => h) (Or.inr ⟨by rfl, rfl⟩) ?_ ?_
    rotate_left; · simp only [Act.put, e1, e2, e3, i64_w, i32_w]; rfl
    refine pure_ (i := 19) (N := some 64) (v := undef) (a' := ?_) bb58_ rfl rfl (any_of HT_.out (by kernel_rfl)) (fun _ _ _ h => h) (Or.inr ⟨by rfl, rfl⟩) ?_ ?_
    rotate_left; · simp only [Act.put, e1, e2, e3, i64_w, i32_w]; rfl
    refine pure_ (i := 20) (N := some 65) (v := undef) (a' := ?_) bb54_ rfl rfl (any_of HT_.out (by kernel_rfl)) (fun _ _ _ h => h) (Or.inr ⟨by rfl, rfl⟩) ?_ ?_
    rotate_left; · simp only [Act.put, e1, e2, e3, i64_w, i32_w]; rfl
    refine pure_ (i := 21) (N := some 66) (v := undef) (a' := ?_) bb51_ rfl rfl (any_of HT_.out (by kernel_rfl)) (fun _ _ _ h => h) (Or.inr ⟨by rfl, rfl⟩) ?_ ?_
    rotate_left; · simp only [Act.put, e1, e2, e3, i64_w, i32_w]; rfl
    refine pure_ (i := 22) (N := some 67) (v := undef) (a' := ?_) bb48_ rfl rfl (any_of HT_.out (by kernel_rfl)) (fun _ _ _ h => h) (Or.inr ⟨by rfl, rfl⟩) ?_ ?_
    rotate_left; · simp only [Act.put, e1, e2, e3, i64_w, i32_w]; rfl
    refine pure_ (i := 23) (N := some 68) (v := undef) (a' := ?_) bb45_ rfl rfl (any_of HT_.out (by kernel_rfl)) (fun _ _ _ h => h) (Or.inr ⟨by rfl, rfl⟩) ?_ ?_
    rotate_left; · simp only [Act.put, e1, e2, e3, i64_w, i32_w]; rfl
    refine pure_ (i := 24) (N := some 69) (v := undef) (a' := ?_) bb42_ rfl rfl (any_of HT_.out (by kernel_rfl)) (fun _ _ _ h => h) (Or.inr ⟨by rfl, rfl⟩) ?_ ?_
    rotate_left; · simp only [Act.put, e1, e2, e3, i64_w, i32_w]; rfl
    refine pure_ (i := 25) (N := some 70) (v := undef) (a' := ?_) bb40_ rfl rfl (any_of HT_.out (by kernel_rfl)) (fun _ _ _ h => h) (Or.inr ⟨by rfl, rfl⟩) ?_ ?_
    rotate_left; · simp only [Act.put, e1, e2, e3, i64_w, i32_w]; rfl
    refine pure_ (i := 26) (N := some 71) (v := undef) (a' := ?_) bb38_ rfl rfl (any_of HT_.out (by kernel_rfl)) (fun _ _ _ h => h) (Or.inr ⟨by rfl, rfl⟩) ?_ ?_
    rotate_left; · simp only [Act.put, e1, e2, e3, i64_w, i32_w]; rfl
    refine pure_ (i := 27) (N := some 72) (v := undef) (a' := ?_) bb36_ rfl rfl (any_of HT_.out (by kernel_rfl)) (fun _ _ _ h => h) (Or.inr ⟨by rfl, rfl⟩) ?_ ?_
    rotate_left; · simp only [Act.put, e1, e2, e3, i64_w, i32_w]; rfl
    refine pure_ (i := 28) (N := some 73) (v := undef) (a' := ?_) bb34_ rfl rfl (any_of HT_.out (by kernel_rfl)) (fun _ _ _ h => h) (Or.inr ⟨by rfl, rfl⟩) ?_ ?_
    rotate_left; · simp only [Act.put, e1, e2, e3, i64_w, i32_w]; rfl
    refine pure_ (i := 29) (N := some 74) (v := ?_) (a' := ?_) bb32_ rfl rfl (any_of HT_.out (by kernel_rfl)) (fun _ _ _ h => h) (Or.inl ⟨by rfl, ?_⟩) ?_ ?_
    rotate_left; · intro w'; go_simp; with_reducible rfl
    rotate_left; · simp only [Act.put, e1, e2, e3, i64_w, i32_w]; rfl
    refine pure_ (i := 30) (N := some 75) (v := ?_) (a' := ?_) bb30_ rfl rfl (any_of HT_.out (by kernel_rfl)) (fun _ _ _ h => h) (Or.inl ⟨by rfl, ?_⟩) ?_ ?_
    rotate_left; · intro w'; go_simp; with_reducible rfl
    rotate_left; · simp only [Act.put, e1, e2, e3, i64_w, i32_w]; rfl
    refine done_ (done_of HT_.out (by kernel_rfl)) ?_
    try go_wp2
    go_meet
    case rel => exact ⟨_, (true), (by first | rfl | (simp; done) | (simp [*]; done)), H', ⟨by have := HK1.out; have := HJ2.out; have := HJ4.out; have := HJ9.out; have := HJ15.out; have := HJ21.out; first | omega | exact Nat.le_refl _⟩, ⟨by (with_reducible repeat (first | refine blk_drewN ?_ _ | refine blk_drew ?_ | refine blk_alloc ?_ _)); exact BK521.out⟩, ⟨by repeat (first | (with_reducible first | exact HB.out | apply below_alloc | apply pw_below_drewN | apply below_drew1 | refine below_set ?_ GE521.out) | exact HB.out)⟩⟩
   as_aux_lemma =>
   rw [if_pos c30] at H
   have c30b0 : ((t528.length : Int) == 64) = true := beq_iff_eq.mpr c30
   have c30b1 : ((t528.length : Int) != 64) = false := bne_eq_false_iff_eq.mpr c30
   clear c30
   by_cases c31 : ((rd_T35 l0 x3_1).f1.f0) = 1
   rotate_left
   ·as_aux_lemma =>
    rw [if_neg c31] at H
    have c31b0 : (((rd_T35 l0 x3_1).f1.f0) == 1) = false := beq_eq_false_iff_ne.mpr c31
    have c31b1 : (((rd_T35 l0 x3_1).f1.f0) != 1) = true := bne_iff_ne.mpr c31
    have H' := Aside0.mk H
    clear H
    try go_wp2
    have n0_ := Aside0.mk (Kd.R_drew HO530.out)
    have n1_ := Aside0.mk (blk_drew BK521.out)
    have n2_ := Aside0.mk (below_drew1 HB.out)
    clear HO530
    clear BK521
    clear HB
    have HO530 := n0_
    have BK521 := n1_
    have HB := n2_
    clear n0_ n1_ n2_
    obtain ⟨Ao37, co37, eo37⟩ := Kd.R_slice HO530.out
    (first | subst eo37 | (injection eo37 with f1_ f2_ f3_; have f4_ := f1_.symm; have f5_ := f3_.symm; clear f1_ f2_ f3_; subst f4_; subst f5_))
    refine start_ (n := 31) (S := fun w' => w'.cell? ⟨gb521, 7, none⟩ = some (.int .i64 ((rd_T35 l0 x3_1).f1.f0)) ∧ w'.cell? ⟨gb521, 8, none⟩ = some (.slice A520_8 ((rd_T35 l0 x3_1).f1.f1).length c520_8)) (ds := []) bb97_ (by kernel_rfl) rfl rfl ⟨bc BK521 7, bc BK521 8⟩ (fun hHeld => ?_); refine with_tabW gangwaylaw20_StatLengths.tab11 gangwaylaw20_StatLengths.bits11 (fun HT_ HW_ => ?_)
    generalize w27.drew = w36 at HO530 BK521 HB hHeld ⊢
    refine pure_ (i := 0) (N := some 45) (v := ?_) (a' := ?_) bb96_ rfl rfl (any_of HT_.out (by kernel_rfl)) (fun _ _ _ h => h) (Or.inl ⟨by rfl, ?_⟩) ?_ ?_
    rotate_left; · intro w'; go_simp; with_reducible rfl
    rotate_left; · simp only [Act.put, e1, e2, e3, i64_w, i32_w]; rfl
    refine one_ (i := 1) (N := some 46) bb95_ rfl rfl (one_of HT_.out (by kernel_rfl)) (by decide) (fun K hK => ?_)
    refine goes_ Try.func19 (by kernel_rfl) rfl #[.int .i64 t531] (by rfl) rfl rfl (by (try simp only [List.map_toArray, List.map_cons, List.map_nil]); first | done | rfl | (simp only [List.length_drop, List.length_take]; rfl)) ?_
    with_reducible refine (gangwaylaw20_num.calls t531 t532 _ A28.out).mono ?_
    rintro e w' ⟨rfl, ⟨nd, rfl⟩⟩
    refine ⟨_, rfl, ?_⟩
    refine hK.out _ _ ⟨bc BK521 7, bc BK521 8⟩ (fun hHeld => ?_)
    clear hK K
    refine norm_ (a' := ?_) ?_ ?_
    rotate_left
    ·show Act.put _ (some 46) _ = _
     simp only [Act.put, e1, e2, e3, i64_w, i32_w]
     rfl
    refine pure_ (i := 2) (N := some 47) (v := ?_) (a' := ?_) bb94_ rfl rfl (any_of HT_.out (by kernel_rfl)) (fun _ _ _ h => h) (Or.inl ⟨by rfl, ?_⟩) ?_ ?_
    rotate_left; · intro w'; go_simp; with_reducible rfl
    rotate_left; · simp only [Act.put, e1, e2, e3, i64_w, i32_w]; rfl
    refine pure_ (i := 3) (N := some 48) (v := ?_) (a' := ?_) bb93_ rfl rfl (any_of HT_.out (by kernel_rfl)) (fun _ _ _ h => h) (Or.inl ⟨by rfl, ?_⟩) ?_ ?_
    rotate_left; · intro w'; go_simp; with_reducible rfl
    rotate_left; · simp only [Act.put, e1, e2, e3, i64_w, i32_w]; rfl
    refine pure_ (i := 4) (N := some 49) (v := ?_) (a' := ?_) bb92_ rfl rfl (any_of HT_.out (by kernel_rfl)) (fun _ _ _ h => h) (Or.inl ⟨by rfl, ?_⟩) ?_ ?_
    rotate_left; · intro w'; go_simp; with_reducible rfl
    rotate_left; · simp only [Act.put, e1, e2, e3, i64_w, i32_w]; rfl
    refine pure_ (i := 5) (N := some 50) (v := ?_) (a' := ?_) bb91_ rfl rfl (any_of HT_.out (by kernel_rfl)) (fun _ _ _ h => h) (Or.inl ⟨by rfl, ?_⟩) ?_ ?_
    rotate_left; · intro w'; go_simp; with_reducible rfl
    rotate_left; · simp only [Act.put, e1, e2, e3, i64_w, i32_w]; rfl
    refine pure_ (i := 6) (N := some 51) (v := ?_) (a' := ?_) bb90_ rfl rfl (any_of HT_.out (by kernel_rfl)) (fun _ _ _ h => h) (Or.inl ⟨by rfl, ?_⟩) ?_ ?_
    rotate_left; · intro w'; go_simp; with_reducible rfl
    rotate_left; · simp only [Act.put, e1, e2, e3, i64_w, i32_w]; rfl
    refine pure_ (i := 7) (N := some 52) (v := ?_) (a' := ?_) bb88_ rfl rfl (any_of HT_.out (by kernel_rfl)) (fun _ _ _ h => h) (Or.inl ⟨by rfl, ?_⟩) ?_ ?_
    rotate_left; · intro w'; go_simp; with_reducible rfl
    rotate_left; · simp only [Act.put, e1, e2, e3, i64_w, i32_w]; rfl
    refine pure_ (i := 8) (N := some 53) (v := ?_) (a' := ?_) bb86_ rfl rfl (any_of HT_.out (by kernel_rfl)) (fun _ _ _ h => h) (Or.inl ⟨by rfl, ?_⟩) ?_ ?_
    rotate_left; · intro w'; go_simp; with_reducible rfl
    rotate_left; · simp only [Act.put, e1, e2, e3, i64_w, i32_w]; rfl
    refine pure_ (i := 9) (N := some 54) (v := ?_) (a' := ?_) bb84_ rfl rfl (any_of HT_.out (by kernel_rfl)) (fun _ _ _ h => h) (Or.inl ⟨by rfl, ?_⟩) ?_ ?_
    rotate_left; · intro w'; go_simp; with_reducible rfl
    rotate_left; · simp only [Act.put, e1, e2, e3, i64_w, i32_w]; rfl
    refine take_ (i := 10) (N := some 55) (v := ?_) (a' := ?_) bb82_ rfl rfl (take_ofW HT_.out HW_.out (by kernel_rfl)) (fun _ _ _ h => h) (Or.inl ⟨by rfl, ?_⟩) hHeld ?_ ?_
    rotate_left; · rintro w' ⟨s0, s1⟩; go_simp; with_reducible rfl
    rotate_left; · simp only [Act.put, e1, e2, e3, i64_w, i32_w]; rfl
    refine pure_ (i := 11) (N := some 56) (v := ?_) (a' := ?_) bb80_ rfl rfl (any_of HT_.out (by kernel_rfl)) (fun _ _ _ h => h) (Or.inl ⟨by rfl, ?_⟩) ?_ ?_
    rotate_left; · intro w'; go_simp; with_reducible rfl
    rotate_left; · simp only [Act.put, e1, e2, e3, i64_w, i32_w]; rfl
    refine pure_ (i := 12) (N := some 57) (v := ?_) (a' := ?_) bb78_ rfl rfl (any_of HT_.out (by kernel_rfl)) (fun _ _ _ h => h) (Or.inl ⟨by rfl, ?_⟩) ?_ ?_
    rotate_left; · intro w'; go_simp; with_reducible rfl
    rotate_left; · simp only [Act.put, e1, e2, e3, i64_w, i32_w]; rfl
    refine pure_ (i := 13) (N := some 58) (v := undef) (a' := ?_) bb76_ rfl rfl (any_of HT_.out (by kernel_rfl)) (fun _ _ _ h => h) (Or.inr ⟨by rfl, rfl⟩) ?_ ?_
    rotate_left; · simp only [Act.put, e1, e2, e3, i64_w, i32_w]; rfl
    refine pure_ (i := 14) (N := some 59) (v := undef) (a' := ?_) bb74_ rfl rfl (any_of HT_.out (by kernel_rfl)) (fun _ _ _ h => h) (Or.inr ⟨by rfl, rfl⟩) ?_ ?_
    rotate_left; · simp only [Act.put, e1, e2, e3, i64_w, i32_w]; rfl
    refine pure_ (i := 15) (N := some 60) (v := undef) (a' := ?_) bb72_ rfl rfl (any_of HT_.out (by kernel_rfl)) (fun _ _ _ h => h) (Or.inr ⟨by rfl, rfl⟩) ?_ ?_
    rotate_left; · simp only [Act.put, e1, e2, e3, i64_w, i32_w]; rfl
    refine pure_ (i := 16) (N := some 61) (v := undef) (a' := ?_) bb69_ rfl rfl (any_of HT_.out (by kernel_rfl)) (fun _ _ _ h => h) (Or.inr ⟨by rfl, rfl⟩) ?_ ?_
    rotate_left; · simp only [Act.put, e1, e2, e3, i64_w, i32_w]; rfl
    refine pure_ (i := 17) (N := some 62) (v := undef) (a' := ?_) bb66_ rfl rfl (any_of HT_.out (by kernel_rfl)) (fun _ _ _ h => h) (Or.inr ⟨by rfl, rfl⟩) ?_ ?_
    rotate_left; · simp only [Act.put, e1, e2, e3, i64_w, i32_w]; rfl
    refine pure_ (i := 18) (N := some 63) (v := undef) (a' := ?_) bb62_ rfl rfl (any_of HT_.out (by kernel_rfl)) (fun _ _ _ h => h) (Or.inr ⟨by rfl, rfl⟩) ?_ ?_
    rotate_left; · simp only [Act.put, e1, e2, e3, i64_w, i32_w]; rfl
    refine pure_ (i := 19) (N := some 64) (v := undef) (a' := ?_) bb58_ rfl rfl (any_of HT_.out (by kernel_rfl)) (fun _ _ _ h => h) (Or.inr ⟨by rfl, rfl⟩) ?_ ?_
    rotate_left; · simp only [Act.put, e1, e2, e3, i64_w, i32_w]; rfl
    refine pure_ (i := 20) (N := some 65) (v := undef) (a' := ?_) bb54_ rfl rfl (any_of HT_.out (by kernel_rfl)) (fun _ _ _ h => h) (Or.inr ⟨by rfl, rfl⟩) ?_ ?_
    rotate_left; · simp only [Act.put, e1, e2, e3, i64_w, i32_w]; rfl
    refine pure_ (i := 21) (N := some 66) (v := undef) (a' := ?_) bb51_ rfl rfl (any_of HT_.out (by kernel_rfl)) (fun _ _ _ h => h) (Or.inr ⟨by rfl, rfl⟩) ?_ ?_
    rotate_left; · simp only [Act.put, e1, e2, e3, i64_w, i32_w]; rfl
    refine pure_ (i := 22) (N := some 67) (v := undef) (a' := ?_) bb48_ rfl rfl (any_of HT_.out (by kernel_rfl)) (fun _ _ _ h => h) (Or.inr ⟨by rfl, rfl⟩) ?_ ?_
    rotate_left; · simp only [Act.put, e1, e2, e3, i64_w, i32_w]; rfl
    refine pure_ (i := 23) (N := some 68) (v := undef) (a' := ?_) bb45_ rfl rfl (any_of HT_.out (by kernel_rfl)) (fun _ _ _ h => h) (Or.inr ⟨by rfl, rfl⟩) ?_ ?_
    rotate_left; · simp only [Act.put, e1, e2, e3, i64_w, i32_w]; rfl
    refine pure_ (i := 24) (N := some 69) (v := undef) (a' := ?_) bb42_ rfl rfl (any_of HT_.out (by kernel_rfl)) (fun _ _ _ h => h) (Or.inr ⟨by rfl, rfl⟩) ?_ ?_
    rotate_left; · simp only [Act.put, e1, e2, e3, i64_w, i32_w]; rfl
    refine pure_ (i := 25) (N := some 70) (v := undef) (a' := ?_) bb40_ rfl rfl (any_of HT_.out (by kernel_rfl)) (fun _ _ _ h => h) (Or.inr ⟨by rfl, rfl⟩) ?_ ?_
    rotate_left; · simp only [Act.put, e1, e2, e3, i64_w, i32_w]; rfl
    refine pure_ (i := 26) (N := some 71) (v := undef) (a' := ?_) bb38_ rfl rfl (any_of HT_.out (by kernel_rfl)) (fun _ _ _ h => h) (Or.inr ⟨by rfl, rfl⟩) ?_ ?_
    rotate_left; · simp only [Act.put, e1, e2, e3, i64_w, i32_w]; rfl
    refine pure_ (i := 27) (N := some 72) (v := undef) (a' := ?_) bb36_ rfl rfl (any_of HT_.out (by kernel_rfl)) (fun _ _ _ h => h) (Or.inr ⟨by rfl, rfl⟩) ?_ ?_
    rotate_left; · simp only [Act.put, e1, e2, e3, i64_w, i32_w]; rfl
    refine pure_ (i := 28) (N := some 73) (v := ?_) (a' := ?_) bb34_ rfl rfl (any_of HT_.out (by kernel_rfl)) (fun _ _ _ h => h) (Or.inl ⟨by rfl, ?_⟩) ?_ ?_
    rotate_left; · intro w'; go_simp; with_reducible rfl
    rotate_left; · simp only [Act.put, e1, e2, e3, i64_w, i32_w]; rfl
    refine pure_ (i := 29) (N := some 74) (v := ?_) (a' := ?_) bb32_ rfl rfl (any_of HT_.out (by kernel_rfl)) (fun _ _ _ h => h) (Or.inl ⟨by rfl, ?_⟩) ?_ ?_
    rotate_left; · intro w'; go_simp; with_reducible rfl
    rotate_left; · simp only [Act.put, e1, e2, e3, i64_w, i32_w]; rfl
    refine pure_ (i := 30) (N := some 75) (v := ?_) (a' := ?_) bb30_ rfl rfl (any_of HT_.out (by kernel_rfl)) (fun _ _ _ h => h) (Or.inl ⟨by rfl, ?_⟩) ?_ ?_
    rotate_left; · intro w'; go_simp; with_reducible rfl
    rotate_left; · simp only [Act.put, e1, e2, e3, i64_w, i32_w]; rfl
    refine done_ (done_of HT_.out (by kernel_rfl)) ?_
    try go_wp2
    go_meet
    case rel => exact ⟨_, (false), (by first | rfl | (simp; done) | (simp [*]; done)), H', ⟨by have := HK1.out; have := HJ2.out; have := HJ4.out; have := HJ9.out; have := HJ15.out; have := HJ21.out; first | omega | exact Nat.le_refl _⟩, ⟨by (with_reducible repeat (first | refine blk_drewN ?_ _ | refine blk_drew ?_ | refine blk_alloc ?_ _)); exact BK521.out⟩, ⟨by repeat (first | (with_reducible first | exact HB.out | apply below_alloc | apply pw_below_drewN | apply below_drew1 | refine below_set ?_ GE521.out) | exact HB.out)⟩⟩
   as_aux_lemma =>
   rw [if_pos c31] at H
   have c31b0 : (((rd_T35 l0 x3_1).f1.f0) == 1) = true := beq_iff_eq.mpr c31
   have c31b1 : (((rd_T35 l0 x3_1).f1.f0) != 1) = false := bne_eq_false_iff_eq.mpr c31
   clear c31
   by_cases c32 : 32 < (t528.length : Int)
   rotate_left
   ·rw [if_neg c32] at H
    exact absurd H (by simp)
   as_aux_lemma =>
   rw [if_pos c32] at H
   have c32b0 : decide (32 < (t528.length : Int)) = true := decide_eq_true c32
   have c32b1 : decide (32 < t528.length) = true := decide_eq_true (by omega)
   clear c32
   by_cases c33 : 33 < (t528.length : Int)
   rotate_left
   ·rw [if_neg c33] at H
    exact absurd H (by simp)
   as_aux_lemma =>
   rw [if_pos c33] at H
   have c33b0 : decide (33 < (t528.length : Int)) = true := decide_eq_true c33
   have c33b1 : decide (33 < t528.length) = true := decide_eq_true (by omega)
   clear c33
   have H' := Aside0.mk H
   clear H
   try go_wp2
   have n0_ := Aside0.mk (Kd.R_drew HO530.out)
   have n1_ := Aside0.mk (blk_drew BK521.out)
   have n2_ := Aside0.mk (below_drew1 HB.out)
   clear HO530
   clear BK521
   clear HB
   have HO530 := n0_
   have BK521 := n1_
   have HB := n2_
   clear n0_ n1_ n2_
   obtain ⟨Ao35, co35, eo35⟩ := Kd.R_slice HO530.out
   (first | subst eo35 | (injection eo35 with f1_ f2_ f3_; have f4_ := f1_.symm; have f5_ := f3_.symm; clear f1_ f2_ f3_; subst f4_; subst f5_))
   have p533 : 0 ≤ (32 : Int) := (by omega)
   have q533 : 32 < (t528.length : Int) := of_decide_eq_true (by first | (with_reducible assumption) | assumption)
   obtain ⟨ad533, e533, hx533_0⟩ := Kd.at_int (Kd.R_reads' HO530.out).2.2 32 p533 q533
   cases e533
   (try simp only [show (32 : Int).toNat = 32 from rfl, Nat.reduceMul, Nat.reduceEqDiff, Go.Addr.add, ↓reduceIte] at hx533_0)
   have qi533 : (32 < t528.length) = True := eq_true (by omega)
   (try rw [show ((32 : Int)).toNat = 32 from rfl] at hx533_0)
   replace p533 := eq_true p533
   replace q533 := eq_true q533
   have p534 : 0 ≤ (33 : Int) := (by omega)
   have q534 : 33 < (t528.length : Int) := of_decide_eq_true (by first | (with_reducible assumption) | assumption)
   obtain ⟨ad534, e534, hx534_0⟩ := Kd.at_int (Kd.R_reads' HO530.out).2.2 33 p534 q534
   obtain rfl : ad533 = ad534 := (by injection e534)
   (try simp only [show (33 : Int).toNat = 33 from rfl, Nat.reduceMul, Nat.reduceEqDiff, Go.Addr.add, ↓reduceIte] at hx534_0)
   have qi534 : (33 < t528.length) = True := eq_true (by omega)
   (try rw [show ((33 : Int)).toNat = 33 from rfl] at hx534_0)
   replace p534 := eq_true p534
   replace q534 := eq_true q534
   refine start_ (n := 31) (S := fun w' => w'.cell? ⟨gb521, 7, none⟩ = some (.int .i64 ((rd_T35 l0 x3_1).f1.f0)) ∧ w'.cell? ⟨gb521, 8, none⟩ = some (.slice A520_8 ((rd_T35 l0 x3_1).f1.f1).length c520_8) ∧ w'.cell? ⟨ad533.block, ad533.off + 32, none⟩ = some (.int .u8 (rd t528 32)) ∧ w'.cell? ⟨ad533.block, ad533.off + 33, none⟩ = some (.int .u8 (rd t528 33))) (ds := []) bb97_ (by kernel_rfl) rfl rfl ⟨bc BK521 7, bc BK521 8, hx533_0, hx534_0⟩ (fun hHeld => ?_); refine with_tabW gangwaylaw20_StatLengths.tab11 gangwaylaw20_StatLengths.bits11 (fun HT_ HW_ => ?_)
   generalize w27.drew = w34 at HO530 BK521 HB hx533_0 hx534_0 hHeld ⊢
   refine pure_ (i := 0) (N := some 45) (v := ?_) (a' := ?_) bb96_ rfl rfl (any_of HT_.out (by kernel_rfl)) (fun _ _ _ h => h) (Or.inl ⟨by rfl, ?_⟩) ?_ ?_
   rotate_left; · intro w'; go_simp; with_reducible rfl
   rotate_left; · simp only [Act.put, e1, e2, e3, i64_w, i32_w]; rfl
   refine one_ (i := 1) (N := some 46) bb95_ rfl rfl (one_of HT_.out (by kernel_rfl)) (by decide) (fun K hK => ?_)
   refine goes_ Try.func19 (by kernel_rfl) rfl #[.int .i64 t531] (by rfl) rfl rfl (by (try simp only [List.map_toArray, List.map_cons, List.map_nil]); first | done | rfl | (simp only [List.length_drop, List.length_take]; rfl)) ?_
   with_reducible refine (gangwaylaw20_num.calls t531 t532 _ A28.out).mono ?_
   rintro e w' ⟨rfl, ⟨nd, rfl⟩⟩
   refine ⟨_, rfl, ?_⟩
   refine hK.out _ _ ⟨bc BK521 7, bc BK521 8, hHeld.2.2.1, hHeld.2.2.2⟩ (fun hHeld => ?_)
   clear hK K
   refine norm_ (a' := ?_) ?_ ?_
   rotate_left
   ·show Act.put _ (some 46) _ = _
    simp only [Act.put, e1, e2, e3, i64_w, i32_w]
    rfl
   refine pure_ (i := 2) (N := some 47) (v := ?_) (a' := ?_) bb94_ rfl rfl (any_of HT_.out (by kernel_rfl)) (fun _ _ _ h => h) (Or.inl ⟨by rfl, ?_⟩) ?_ ?_
   rotate_left; · intro w'; go_simp; with_reducible rfl
   rotate_left; · simp only [Act.put, e1, e2, e3, i64_w, i32_w]; rfl
   refine pure_ (i := 3) (N := some 48) (v := ?_) (a' := ?_) bb93_ rfl rfl (any_of HT_.out (by kernel_rfl)) (fun _ _ _ h => h) (Or.inl ⟨by rfl, ?_⟩) ?_ ?_
   rotate_left; · intro w'; go_simp; with_reducible rfl
   rotate_left; · simp only [Act.put, e1, e2, e3, i64_w, i32_w]; rfl
   refine pure_ (i := 4) (N := some 49) (v := ?_) (a' := ?_) bb92_ rfl rfl (any_of HT_.out (by kernel_rfl)) (fun _ _ _ h => h) (Or.inl ⟨by rfl, ?_⟩) ?_ ?_
   rotate_left; · intro w'; go_simp; with_reducible rfl
   rotate_left; · simp only [Act.put, e1, e2, e3, i64_w, i32_w]; rfl
   refine pure_ (i := 5) (N := some 50) (v := ?_) (a' := ?_) bb91_ rfl rfl (any_of HT_.out (by kernel_rfl)) (fun _ _ _ h => h) (Or.inl ⟨by rfl, ?_⟩) ?_ ?_
   rotate_left; · intro w'; go_simp; with_reducible rfl
   rotate_left; · simp only [Act.put, e1, e2, e3, i64_w, i32_w]; rfl
   refine pure_ (i := 6) (N := some 51) (v := ?_) (a' := ?_) bb90_ rfl rfl (any_of HT_.out (by kernel_rfl)) (fun _ _ _ h => h) (Or.inl ⟨by rfl, ?_⟩) ?_ ?_
   rotate_left; · intro w'; go_simp; with_reducible rfl
   rotate_left; · simp only [Act.put, e1, e2, e3, i64_w, i32_w]; rfl
   refine pure_ (i := 7) (N := some 52) (v := ?_) (a' := ?_) bb88_ rfl rfl (any_of HT_.out (by kernel_rfl)) (fun _ _ _ h => h) (Or.inl ⟨by rfl, ?_⟩) ?_ ?_
   rotate_left; · intro w'; go_simp; with_reducible rfl
   rotate_left; · simp only [Act.put, e1, e2, e3, i64_w, i32_w]; rfl
   refine pure_ (i := 8) (N := some 53) (v := ?_) (a' := ?_) bb86_ rfl rfl (any_of HT_.out (by kernel_rfl)) (fun _ _ _ h => h) (Or.inl ⟨by rfl, ?_⟩) ?_ ?_
   rotate_left; · intro w'; go_simp; with_reducible rfl
   rotate_left; · simp only [Act.put, e1, e2, e3, i64_w, i32_w]; rfl
   refine pure_ (i := 9) (N := some 54) (v := ?_) (a' := ?_) bb84_ rfl rfl (any_of HT_.out (by kernel_rfl)) (fun _ _ _ h => h) (Or.inl ⟨by rfl, ?_⟩) ?_ ?_
   rotate_left; · intro w'; go_simp; with_reducible rfl
   rotate_left; · simp only [Act.put, e1, e2, e3, i64_w, i32_w]; rfl
   refine take_ (i := 10) (N := some 55) (v := ?_) (a' := ?_) bb82_ rfl rfl (take_ofW HT_.out HW_.out (by kernel_rfl)) (fun _ _ _ h => h) (Or.inl ⟨by rfl, ?_⟩) hHeld ?_ ?_
   rotate_left; · rintro w' ⟨s0, s1, s2, s3⟩; go_simp; with_reducible rfl
   rotate_left; · simp only [Act.put, e1, e2, e3, i64_w, i32_w]; rfl
   refine pure_ (i := 11) (N := some 56) (v := ?_) (a' := ?_) bb80_ rfl rfl (any_of HT_.out (by kernel_rfl)) (fun _ _ _ h => h) (Or.inl ⟨by rfl, ?_⟩) ?_ ?_
   rotate_left; · intro w'; go_simp; with_reducible rfl
   rotate_left; · simp only [Act.put, e1, e2, e3, i64_w, i32_w]; rfl
   refine pure_ (i := 12) (N := some 57) (v := ?_) (a' := ?_) bb78_ rfl rfl (any_of HT_.out (by kernel_rfl)) (fun _ _ _ h => h) (Or.inl ⟨by rfl, ?_⟩) ?_ ?_
   rotate_left; · intro w'; go_simp; with_reducible rfl
   rotate_left; · simp only [Act.put, e1, e2, e3, i64_w, i32_w]; rfl
   refine pure_ (i := 13) (N := some 58) (v := ?_) (a' := ?_) bb76_ rfl rfl (any_of HT_.out (by kernel_rfl)) (fun _ _ _ h => h) (Or.inl ⟨by rfl, ?_⟩) ?_ ?_
   rotate_left; · intro w'; go_simp; with_reducible rfl
   rotate_left; · simp only [Act.put, e1, e2, e3, i64_w, i32_w]; rfl
   refine pure_ (i := 14) (N := some 59) (v := ?_) (a' := ?_) bb74_ rfl rfl (any_of HT_.out (by kernel_rfl)) (fun _ _ _ h => h) (Or.inl ⟨by rfl, ?_⟩) ?_ ?_
   rotate_left; · intro w'; go_simp; with_reducible rfl
   rotate_left; · simp only [Act.put, e1, e2, e3, i64_w, i32_w]; rfl
   refine pure_ (i := 17) (N := some 62) (v := ?_) (a' := ?_) bb71_ rfl rfl (any_of HT_.out (by kernel_rfl)) (fun _ _ _ h => h) (Or.inl ⟨by rfl, ?_⟩) ?_ ?_
   rotate_left; · intro w'; go_simp; with_reducible rfl
   rotate_left; · simp only [Act.put, e1, e2, e3, i64_w, i32_w]; rfl
   refine pure_ (i := 18) (N := some 63) (v := ?_) (a' := ?_) bb68_ rfl rfl (any_of HT_.out (by kernel_rfl)) (fun _ _ _ h => h) (Or.inl ⟨by rfl, ?_⟩) ?_ ?_
   rotate_left; · intro w'; go_simp; with_reducible rfl
   rotate_left; · simp only [Act.put, e1, e2, e3, i64_w, i32_w]; rfl
   refine pure_ (i := 23) (N := some 68) (v := ?_) (a' := ?_) bb65_ rfl rfl (any_of HT_.out (by kernel_rfl)) (fun _ _ _ h => h) (Or.inl ⟨by rfl, ?_⟩) ?_ ?_
   rotate_left; · intro w'; go_simp; with_reducible rfl
   rotate_left; · simp only [Act.put, e1, e2, e3, i64_w, i32_w]; rfl
   refine pure_ (i := 24) (N := some 69) (v := ?_) (a' := ?_) bb61_ rfl rfl (any_of HT_.out (by kernel_rfl)) (fun _ _ _ h => h) (Or.inl ⟨by rfl, ?_⟩) ?_ ?_
   rotate_left; · intro w'; go_simp; with_reducible rfl
   rotate_left; · simp only [Act.put, e1, e2, e3, i64_w, i32_w]; rfl
   refine take_ (i := 15) (N := some 60) (v := ?_) (a' := ?_) bb57_ rfl rfl (take_ofW HT_.out HW_.out (by kernel_rfl)) (fun _ _ _ h => h) (Or.inl ⟨by rfl, ?_⟩) hHeld ?_ ?_
   rotate_left; · rintro w' ⟨s0, s1, s2, s3⟩; go_simp; with_reducible rfl
   rotate_left; · simp only [Act.put, e1, e2, e3, i64_w, i32_w]; rfl
   refine pure_ (i := 16) (N := some 61) (v := ?_) (a' := ?_) bb53_ rfl rfl (any_of HT_.out (by kernel_rfl)) (fun _ _ _ h => h) (Or.inl ⟨by rfl, ?_⟩) ?_ ?_
   rotate_left; · intro w'; go_simp; with_reducible rfl
   rotate_left; · simp only [Act.put, e1, e2, e3, i64_w, i32_w]; rfl
   refine take_ (i := 19) (N := some 64) (v := ?_) (a' := ?_) bb50_ rfl rfl (take_ofW HT_.out HW_.out (by kernel_rfl)) (fun _ _ _ h => h) (Or.inl ⟨by rfl, ?_⟩) hHeld ?_ ?_
   rotate_left; · rintro w' ⟨s0, s1, s2, s3⟩; go_simp; with_reducible rfl
   rotate_left; · simp only [Act.put, e1, e2, e3, i64_w, i32_w]; rfl
   refine pure_ (i := 20) (N := some 65) (v := ?_) (a' := ?_) bb47_ rfl rfl (any_of HT_.out (by kernel_rfl)) (fun _ _ _ h => h) (Or.inl ⟨by rfl, ?_⟩) ?_ ?_
   rotate_left; · intro w'; go_simp; with_reducible rfl
   rotate_left; · simp only [Act.put, e1, e2, e3, i64_w, i32_w]; rfl
   refine pure_ (i := 21) (N := some 66) (v := ?_) (a' := ?_) bb44_ rfl rfl (any_of HT_.out (by kernel_rfl)) (fun _ _ _ h => h) (Or.inl ⟨by rfl, ?_⟩) ?_ ?_
   rotate_left; · intro w'; go_simp; with_reducible rfl
   rotate_left; · simp only [Act.put, e1, e2, e3, i64_w, i32_w]; rfl
   refine pure_ (i := 22) (N := some 67) (v := ?_) (a' := ?_) bb42_ rfl rfl (any_of HT_.out (by kernel_rfl)) (fun _ _ _ h => h) (Or.inl ⟨by rfl, ?_⟩) ?_ ?_
   rotate_left; · intro w'; go_simp; with_reducible rfl
   rotate_left; · simp only [Act.put, e1, e2, e3, i64_w, i32_w]; rfl
   refine take_ (i := 25) (N := some 70) (v := ?_) (a' := ?_) bb40_ rfl rfl (take_ofW HT_.out HW_.out (by kernel_rfl)) (fun _ _ _ h => h) (Or.inl ⟨by rfl, ?_⟩) hHeld ?_ ?_
   rotate_left; · rintro w' ⟨s0, s1, s2, s3⟩; go_simp; with_reducible rfl
   rotate_left; · simp only [Act.put, e1, e2, e3, i64_w, i32_w]; rfl
   refine pure_ (i := 26) (N := some 71) (v := ?_) (a' := ?_) bb38_ rfl rfl (any_of HT_.out (by kernel_rfl)) (fun _ _ _ h => h) (Or.inl ⟨by rfl, ?_⟩) ?_ ?_
   rotate_left; · intro w'; go_simp; with_reducible rfl
   rotate_left; · simp only [Act.put, e1, e2, e3, i64_w, i32_w]; rfl
   refine pure_ (i := 27) (N := some 72) (v := ?_) (a' := ?_) bb36_ rfl rfl (any_of HT_.out (by kernel_rfl)) (fun _ _ _ h => h) (Or.inl ⟨by rfl, ?_⟩) ?_ ?_
   rotate_left; · intro w'; go_simp; with_reducible rfl
   rotate_left; · simp only [Act.put, e1, e2, e3, i64_w, i32_w]; rfl
   refine pure_ (i := 28) (N := some 73) (v := ?_) (a' := ?_) bb34_ rfl rfl (any_of HT_.out (by kernel_rfl)) (fun _ _ _ h => h) (Or.inl ⟨by rfl, ?_⟩) ?_ ?_
   rotate_left; · intro w'; go_simp; with_reducible rfl
   rotate_left; · simp only [Act.put, e1, e2, e3, i64_w, i32_w]; rfl
   refine pure_ (i := 29) (N := some 74) (v := ?_) (a' := ?_) bb32_ rfl rfl (any_of HT_.out (by kernel_rfl)) (fun _ _ _ h => h) (Or.inl ⟨by rfl, ?_⟩) ?_ ?_
   rotate_left; · intro w'; go_simp; with_reducible rfl
   rotate_left; · simp only [Act.put, e1, e2, e3, i64_w, i32_w]; rfl
   refine pure_ (i := 30) (N := some 75) (v := ?_) (a' := ?_) bb30_ rfl rfl (any_of HT_.out (by kernel_rfl)) (fun _ _ _ h => h) (Or.inl ⟨by rfl, ?_⟩) ?_ ?_
   rotate_left; · intro w'; go_simp; with_reducible rfl
   rotate_left; · simp only [Act.put, e1, e2, e3, i64_w, i32_w]; rfl
   refine done_ (done_of HT_.out (by kernel_rfl)) ?_
   try go_wp2
   go_meet
   case rel => exact ⟨_, (((wrap64 ((wrap64 (rd t528 32)) + (wrap64 ((wrap64 (rd t528 33)) * 256)))) != (((rd_T35 l0 x3_1).f1.f1).length : Int))), (by first | rfl | (simp; done) | (simp [*]; done)), H', ⟨by have := HK1.out; have := HJ2.out; have := HJ4.out; have := HJ9.out; have := HJ15.out; have := HJ21.out; first | omega | exact Nat.le_refl _⟩, ⟨by (with_reducible repeat (first | refine blk_drewN ?_ _ | refine blk_drew ?_ | refine blk_alloc ?_ _)); exact BK521.out⟩, ⟨by repeat (first | (with_reducible first | exact HB.out | apply below_alloc | apply pw_below_drewN | apply below_drew1 | refine below_set ?_ GE521.out) | exact HB.out)⟩⟩
  case rest =>
  as_aux_lemma =>
  clear HC25
  try clear c1
  try clear c2
  try clear p2
  try clear c3
  try clear c5
  try clear p6
  try clear c19
  try clear c29
  try clear c29b0
  try clear c29b1
  try clear c30
  try clear c30b0
  try clear c30b1
  try clear c31
  try clear c31b0
  try clear c31b1
  try clear c32
  try clear c33
  obtain ⟨kq, x75_24, rfl, HA, HJ24, BK521, HB⟩ := hcut
  cases kq with
  | zero => exact absurd HA.out (by simp [j6])
  | succ kj24 =>
  have H := HA.out
  clear HA
  simp only [j6] at H
  have HC41 := Aside0.mk H
  clear H
  go_upto_if 75 with (fail)
  go_cut [] (fun wc => ∃ (kq : Nat), Aside0 (j7 kq l0 x3_1 ((rd_T35 l0 x3_1).f0.f0) ((rd_T35 l0 x3_1).f0.f1) ((rd_T35 l0 x3_1).f0.f2) ((rd_T35 l0 x3_1).f0.f3) ((rd_T35 l0 x3_1).f0.f4) ((rd_T35 l0 x3_1).f0.f5) ((rd_T35 l0 x3_1).f0.f6) ((rd_T35 l0 x3_1).f1.f0) ((rd_T35 l0 x3_1).f1.f1) ((rd_T35 l0 x3_1).f1.f2) ((rd_T35 l0 x3_1).f1.f3) ((rd_T35 l0 x3_1).f1.f4) ((rd_T35 l0 x3_1).f1.f5) ((rd_T35 l0 x3_1).f2) ((rd_T35 l0 x3_1).f3) ((rd_T35 l0 x3_1).f4) ((rd_T35 l0 x3_1).f5) ((rd_T35 l0 x3_1).f6) ((rd_T35 l0 x3_1).f7.f0) ((rd_T35 l0 x3_1).f7.f1) ((rd_T35 l0 x3_1).f7.f2) ((rd_T35 l0 x3_1).f7.f3) ((rd_T35 l0 x3_1).f8) = some r) ∧ Aside0 (kq ≤ kj24) ∧ Aside0 (wc.heap[gb521]? = some (.cells #[.int .i64 ((rd_T35 l0 x3_1).f0.f0), .int .i64 ((rd_T35 l0 x3_1).f0.f1), .int .i64 ((rd_T35 l0 x3_1).f0.f2), .int .i64 ((rd_T35 l0 x3_1).f0.f3), .int .i64 ((rd_T35 l0 x3_1).f0.f4), .int .i64 ((rd_T35 l0 x3_1).f0.f5), .string ((rd_T35 l0 x3_1).f0.f6), .int .i64 ((rd_T35 l0 x3_1).f1.f0), (.slice A520_8 ((rd_T35 l0 x3_1).f1.f1).length c520_8), (.slice A520_9 ((rd_T35 l0 x3_1).f1.f2).length c520_9), .string ((rd_T35 l0 x3_1).f1.f3), .int .i64 ((rd_T35 l0 x3_1).f1.f4), .int .i64 ((rd_T35 l0 x3_1).f1.f5), .int .i64 ((rd_T35 l0 x3_1).f2), .string ((rd_T35 l0 x3_1).f3), .int .i64 ((rd_T35 l0 x3_1).f4), .int .i64 ((rd_T35 l0 x3_1).f5), .int .i64 ((rd_T35 l0 x3_1).f6), .int .i64 ((rd_T35 l0 x3_1).f7.f0), .int .i64 ((rd_T35 l0 x3_1).f7.f1), .int .i64 ((rd_T35 l0 x3_1).f7.f2), .int .i64 ((rd_T35 l0 x3_1).f7.f3), (.slice A520_22 ((rd_T35 l0 x3_1).f8).length c520_22)] 35 (0, 0))) ∧ Aside0 (Below w.heap.size w wc))
  case first =>
   have H := HC41.out
   clear HC41
   by_cases c42 : x75_24 = true
   ·subst c42
    have H1 : (none) = some r := by rw [if_pos rfl] at H; exact H
    clear H
    have H := H1
    clear H1
    exact absurd H (by simp)
   replace c42 := Bool.eq_false_iff.mpr c42
   subst c42
   have H1 : (j7 kj24 l0 x3_1 ((rd_T35 l0 x3_1).f0.f0) ((rd_T35 l0 x3_1).f0.f1) ((rd_T35 l0 x3_1).f0.f2) ((rd_T35 l0 x3_1).f0.f3) ((rd_T35 l0 x3_1).f0.f4) ((rd_T35 l0 x3_1).f0.f5) ((rd_T35 l0 x3_1).f0.f6) ((rd_T35 l0 x3_1).f1.f0) ((rd_T35 l0 x3_1).f1.f1) ((rd_T35 l0 x3_1).f1.f2) ((rd_T35 l0 x3_1).f1.f3) ((rd_T35 l0 x3_1).f1.f4) ((rd_T35 l0 x3_1).f1.f5) ((rd_T35 l0 x3_1).f2) ((rd_T35 l0 x3_1).f3) ((rd_T35 l0 x3_1).f4) ((rd_T35 l0 x3_1).f5) ((rd_T35 l0 x3_1).f6) ((rd_T35 l0 x3_1).f7.f0) ((rd_T35 l0 x3_1).f7.f1) ((rd_T35 l0 x3_1).f7.f2) ((rd_T35 l0 x3_1).f7.f3) ((rd_T35 l0 x3_1).f8)) = some r := by rw [if_neg (show ¬ (false = true) by decide)] at H; exact H
   clear H
   have H := H1
   clear H1
   have H' := Aside0.mk H
   clear H
   go_wp2
   go_meet
   case rel => exact ⟨_, H', ⟨by have := HK1.out; have := HJ2.out; have := HJ4.out; have := HJ9.out; have := HJ15.out; have := HJ21.out; have := HJ24.out; first | omega | exact Nat.le_refl _⟩, ⟨by (with_reducible repeat (first | refine blk_drewN ?_ _ | refine blk_drew ?_ | refine blk_alloc ?_ _)); exact BK521.out⟩, ⟨by repeat (first | (with_reducible first | exact HB.out | apply below_alloc | apply pw_below_drewN | apply below_drew1 | refine below_set ?_ GE521.out) | exact HB.out)⟩⟩
  case rest =>
  as_aux_lemma =>
  clear HC41
  try clear c1
  try clear c2
  try clear p2
  try clear c3
  try clear c4
  try clear c5
  try clear p6
  try clear c19
  try clear c29
  try clear c29b0
  try clear c29b1
  try clear c30
  try clear c30b0
  try clear c30b1
  try clear c31
  try clear c31b0
  try clear c31b1
  try clear c32
  try clear c33
  try clear c42
  try clear p2
  try clear p6
  obtain ⟨kq, HA, HJ40, BK521, HB⟩ := hcut
  cases kq with
  | zero => exact absurd HA.out (by simp [j7])
  | succ kj40 =>
  have H := HA.out
  clear HA
  simp only [j7] at H
  replace H := Option.bind_eq_some_iff.mp H
  obtain ⟨⟨t535, t536⟩, A430, H⟩ := H
  replace H : ((gangwaylaw20_num.f t536).bind fun t539 => (if t539 = 0 then (if (t535.length : Int) = (wrap64 (24 + (((rd_T35 l0 x3_1).f3).size : Int))) then (if 24 ≤ (t535.length : Int) then (j8 kj40 l0 x3_1 ((strOfNums (t535.drop 24)).toList != ((rd_T35 l0 x3_1).f3).toList) ((rd_T35 l0 x3_1).f0.f0) ((rd_T35 l0 x3_1).f0.f1) ((rd_T35 l0 x3_1).f0.f2) ((rd_T35 l0 x3_1).f0.f3) ((rd_T35 l0 x3_1).f0.f4) ((rd_T35 l0 x3_1).f0.f5) ((rd_T35 l0 x3_1).f0.f6) ((rd_T35 l0 x3_1).f1.f0) ((rd_T35 l0 x3_1).f1.f1) ((rd_T35 l0 x3_1).f1.f2) ((rd_T35 l0 x3_1).f1.f3) ((rd_T35 l0 x3_1).f1.f4) ((rd_T35 l0 x3_1).f1.f5) ((rd_T35 l0 x3_1).f2) ((rd_T35 l0 x3_1).f3) ((rd_T35 l0 x3_1).f4) ((rd_T35 l0 x3_1).f5) ((rd_T35 l0 x3_1).f6) ((rd_T35 l0 x3_1).f7.f0) ((rd_T35 l0 x3_1).f7.f1) ((rd_T35 l0 x3_1).f7.f2) ((rd_T35 l0 x3_1).f7.f3) ((rd_T35 l0 x3_1).f8)) else (none)) else (j8 kj40 l0 x3_1 true ((rd_T35 l0 x3_1).f0.f0) ((rd_T35 l0 x3_1).f0.f1) ((rd_T35 l0 x3_1).f0.f2) ((rd_T35 l0 x3_1).f0.f3) ((rd_T35 l0 x3_1).f0.f4) ((rd_T35 l0 x3_1).f0.f5) ((rd_T35 l0 x3_1).f0.f6) ((rd_T35 l0 x3_1).f1.f0) ((rd_T35 l0 x3_1).f1.f1) ((rd_T35 l0 x3_1).f1.f2) ((rd_T35 l0 x3_1).f1.f3) ((rd_T35 l0 x3_1).f1.f4) ((rd_T35 l0 x3_1).f1.f5) ((rd_T35 l0 x3_1).f2) ((rd_T35 l0 x3_1).f3) ((rd_T35 l0 x3_1).f4) ((rd_T35 l0 x3_1).f5) ((rd_T35 l0 x3_1).f6) ((rd_T35 l0 x3_1).f7.f0) ((rd_T35 l0 x3_1).f7.f1) ((rd_T35 l0 x3_1).f7.f2) ((rd_T35 l0 x3_1).f7.f3) ((rd_T35 l0 x3_1).f8))) else (j8 kj40 l0 x3_1 false ((rd_T35 l0 x3_1).f0.f0) ((rd_T35 l0 x3_1).f0.f1) ((rd_T35 l0 x3_1).f0.f2) ((rd_T35 l0 x3_1).f0.f3) ((rd_T35 l0 x3_1).f0.f4) ((rd_T35 l0 x3_1).f0.f5) ((rd_T35 l0 x3_1).f0.f6) ((rd_T35 l0 x3_1).f1.f0) ((rd_T35 l0 x3_1).f1.f1) ((rd_T35 l0 x3_1).f1.f2) ((rd_T35 l0 x3_1).f1.f3) ((rd_T35 l0 x3_1).f1.f4) ((rd_T35 l0 x3_1).f1.f5) ((rd_T35 l0 x3_1).f2) ((rd_T35 l0 x3_1).f3) ((rd_T35 l0 x3_1).f4) ((rd_T35 l0 x3_1).f5) ((rd_T35 l0 x3_1).f6) ((rd_T35 l0 x3_1).f7.f0) ((rd_T35 l0 x3_1).f7.f1) ((rd_T35 l0 x3_1).f7.f2) ((rd_T35 l0 x3_1).f7.f3) ((rd_T35 l0 x3_1).f8)))) = some r := H
  have A43 := Aside0.mk A430
  clear A430
  have HC44 := Aside0.mk H
  clear H
  have hcz45_0 : wc.cell? ⟨gb521, 0, none⟩ = some (.int .i64 ((rd_T35 l0 x3_1).f0.f0)) := bc BK521 0
  have hcz45_1 : wc.cell? ⟨gb521, 1, none⟩ = some (.int .i64 ((rd_T35 l0 x3_1).f0.f1)) := bc BK521 1
  have hcz45_2 : wc.cell? ⟨gb521, 2, none⟩ = some (.int .i64 ((rd_T35 l0 x3_1).f0.f2)) := bc BK521 2
  have hcz45_3 : wc.cell? ⟨gb521, 3, none⟩ = some (.int .i64 ((rd_T35 l0 x3_1).f0.f3)) := bc BK521 3
  have hcz45_4 : wc.cell? ⟨gb521, 4, none⟩ = some (.int .i64 ((rd_T35 l0 x3_1).f0.f4)) := bc BK521 4
  have hcz45_5 : wc.cell? ⟨gb521, 5, none⟩ = some (.int .i64 ((rd_T35 l0 x3_1).f0.f5)) := bc BK521 5
  have hcz45_6 : wc.cell? ⟨gb521, 6, none⟩ = some (.string ((rd_T35 l0 x3_1).f0.f6)) := bc BK521 6
  have hcz45_7 : wc.cell? ⟨gb521, 7, none⟩ = some (.int .i64 ((rd_T35 l0 x3_1).f1.f0)) := bc BK521 7
  have hcz45_8 : wc.cell? ⟨gb521, 8, none⟩ = some (.slice A520_8 ((rd_T35 l0 x3_1).f1.f1).length c520_8) := bc BK521 8
  have hcz45_9 : wc.cell? ⟨gb521, 9, none⟩ = some (.slice A520_9 ((rd_T35 l0 x3_1).f1.f2).length c520_9) := bc BK521 9
  have hcz45_10 : wc.cell? ⟨gb521, 10, none⟩ = some (.string ((rd_T35 l0 x3_1).f1.f3)) := bc BK521 10
  have hcz45_11 : wc.cell? ⟨gb521, 11, none⟩ = some (.int .i64 ((rd_T35 l0 x3_1).f1.f4)) := bc BK521 11
  have hcz45_12 : wc.cell? ⟨gb521, 12, none⟩ = some (.int .i64 ((rd_T35 l0 x3_1).f1.f5)) := bc BK521 12
  have hcz45_13 : wc.cell? ⟨gb521, 13, none⟩ = some (.int .i64 ((rd_T35 l0 x3_1).f2)) := bc BK521 13
  have hcz45_14 : wc.cell? ⟨gb521, 14, none⟩ = some (.string ((rd_T35 l0 x3_1).f3)) := bc BK521 14
  have hcz45_15 : wc.cell? ⟨gb521, 15, none⟩ = some (.int .i64 ((rd_T35 l0 x3_1).f4)) := bc BK521 15
  have hcz45_16 : wc.cell? ⟨gb521, 16, none⟩ = some (.int .i64 ((rd_T35 l0 x3_1).f5)) := bc BK521 16
  have hcz45_17 : wc.cell? ⟨gb521, 17, none⟩ = some (.int .i64 ((rd_T35 l0 x3_1).f6)) := bc BK521 17
  have hcz45_18 : wc.cell? ⟨gb521, 18, none⟩ = some (.int .i64 ((rd_T35 l0 x3_1).f7.f0)) := bc BK521 18
  have hcz45_19 : wc.cell? ⟨gb521, 19, none⟩ = some (.int .i64 ((rd_T35 l0 x3_1).f7.f1)) := bc BK521 19
  have hcz45_20 : wc.cell? ⟨gb521, 20, none⟩ = some (.int .i64 ((rd_T35 l0 x3_1).f7.f2)) := bc BK521 20
  have hcz45_21 : wc.cell? ⟨gb521, 21, none⟩ = some (.int .i64 ((rd_T35 l0 x3_1).f7.f3)) := bc BK521 21
  go_upto_region 14 with (first | ((with_reducible refine gate_callee (f := 16) rfl ?_); refine goesL_ (some 85) rfl rfl Try.func16 (by kernel_rfl) rfl #[.int .i64 ((rd_T35 l0 x3_1).f4), .int .i64 ((rd_T35 l0 x3_1).f5), .string ((rd_T35 l0 x3_1).f3), .int .i64 ((rd_T35 l0 x3_1).f6)] rfl (by (try simp only [List.map_toArray, List.map_cons, List.map_nil]); first | done | rfl | (simp only [List.length_drop, List.length_take]; rfl)) ?_; (with_reducible refine (stat_Dirent.calls kj40 ((rd_T35 l0 x3_1).f4) ((rd_T35 l0 x3_1).f5) ((rd_T35 l0 x3_1).f3) ((rd_T35 l0 x3_1).f6) t535 t536 _ A43.out).mono ?_); rintro e w46 ⟨v537, rfl, ho0, hb⟩; refine ⟨_, rfl, ?_⟩; have n0_ := Aside0.mk (Kd.R_lower ho0 (below_size (by repeat (first | (with_reducible first | exact HB.out | apply below_alloc | apply pw_below_drewN | apply below_drew1 | refine below_set ?_ GE521.out) | exact HB.out)))); have n1_ := Aside0.mk (bbelow BK521 (by (with_reducible repeat (first | refine blk_drewN ?_ _ | refine blk_drew ?_ | refine blk_alloc ?_ _)); exact BK521.out) hb); have n2_ := Aside0.mk (below_step (by repeat (first | (with_reducible first | exact HB.out | apply below_alloc | apply pw_below_drewN | apply below_drew1 | refine below_set ?_ GE521.out) | exact HB.out)) hb); clear BK521; clear HB; have HO538 := n0_; have BK521 := n1_; have HB := n2_; clear n0_ n1_ n2_; (try clear hb); (try clear hb2); (try clear hk); (try clear hi); (try clear ho0)))
  (try simp only [Act.put, e1, e2, e3])
  go_cut [107] (fun v107 wc => ∃ (kq : Nat) (x107_43 : Bool), v107 = .bool x107_43 ∧ Aside0 (j8 kq l0 x3_1 x107_43 ((rd_T35 l0 x3_1).f0.f0) ((rd_T35 l0 x3_1).f0.f1) ((rd_T35 l0 x3_1).f0.f2) ((rd_T35 l0 x3_1).f0.f3) ((rd_T35 l0 x3_1).f0.f4) ((rd_T35 l0 x3_1).f0.f5) ((rd_T35 l0 x3_1).f0.f6) ((rd_T35 l0 x3_1).f1.f0) ((rd_T35 l0 x3_1).f1.f1) ((rd_T35 l0 x3_1).f1.f2) ((rd_T35 l0 x3_1).f1.f3) ((rd_T35 l0 x3_1).f1.f4) ((rd_T35 l0 x3_1).f1.f5) ((rd_T35 l0 x3_1).f2) ((rd_T35 l0 x3_1).f3) ((rd_T35 l0 x3_1).f4) ((rd_T35 l0 x3_1).f5) ((rd_T35 l0 x3_1).f6) ((rd_T35 l0 x3_1).f7.f0) ((rd_T35 l0 x3_1).f7.f1) ((rd_T35 l0 x3_1).f7.f2) ((rd_T35 l0 x3_1).f7.f3) ((rd_T35 l0 x3_1).f8) = some r) ∧ Aside0 (kq ≤ kj40) ∧ Aside0 (wc.heap[gb521]? = some (.cells #[.int .i64 ((rd_T35 l0 x3_1).f0.f0), .int .i64 ((rd_T35 l0 x3_1).f0.f1), .int .i64 ((rd_T35 l0 x3_1).f0.f2), .int .i64 ((rd_T35 l0 x3_1).f0.f3), .int .i64 ((rd_T35 l0 x3_1).f0.f4), .int .i64 ((rd_T35 l0 x3_1).f0.f5), .string ((rd_T35 l0 x3_1).f0.f6), .int .i64 ((rd_T35 l0 x3_1).f1.f0), (.slice A520_8 ((rd_T35 l0 x3_1).f1.f1).length c520_8), (.slice A520_9 ((rd_T35 l0 x3_1).f1.f2).length c520_9), .string ((rd_T35 l0 x3_1).f1.f3), .int .i64 ((rd_T35 l0 x3_1).f1.f4), .int .i64 ((rd_T35 l0 x3_1).f1.f5), .int .i64 ((rd_T35 l0 x3_1).f2), .string ((rd_T35 l0 x3_1).f3), .int .i64 ((rd_T35 l0 x3_1).f4), .int .i64 ((rd_T35 l0 x3_1).f5), .int .i64 ((rd_T35 l0 x3_1).f6), .int .i64 ((rd_T35 l0 x3_1).f7.f0), .int .i64 ((rd_T35 l0 x3_1).f7.f1), .int .i64 ((rd_T35 l0 x3_1).f7.f2), .int .i64 ((rd_T35 l0 x3_1).f7.f3), (.slice A520_22 ((rd_T35 l0 x3_1).f8).length c520_22)] 35 (0, 0))) ∧ Aside0 (Below w.heap.size w wc))
  case first =>
   have H := HC44.out
   clear HC44
   replace H := Option.bind_eq_some_iff.mp H
   obtain ⟨t539, A470, H⟩ := H
   replace H : (if t539 = 0 then (if (t535.length : Int) = (wrap64 (24 + (((rd_T35 l0 x3_1).f3).size : Int))) then (if 24 ≤ (t535.length : Int) then (j8 kj40 l0 x3_1 ((strOfNums (t535.drop 24)).toList != ((rd_T35 l0 x3_1).f3).toList) ((rd_T35 l0 x3_1).f0.f0) ((rd_T35 l0 x3_1).f0.f1) ((rd_T35 l0 x3_1).f0.f2) ((rd_T35 l0 x3_1).f0.f3) ((rd_T35 l0 x3_1).f0.f4) ((rd_T35 l0 x3_1).f0.f5) ((rd_T35 l0 x3_1).f0.f6) ((rd_T35 l0 x3_1).f1.f0) ((rd_T35 l0 x3_1).f1.f1) ((rd_T35 l0 x3_1).f1.f2) ((rd_T35 l0 x3_1).f1.f3) ((rd_T35 l0 x3_1).f1.f4) ((rd_T35 l0 x3_1).f1.f5) ((rd_T35 l0 x3_1).f2) ((rd_T35 l0 x3_1).f3) ((rd_T35 l0 x3_1).f4) ((rd_T35 l0 x3_1).f5) ((rd_T35 l0 x3_1).f6) ((rd_T35 l0 x3_1).f7.f0) ((rd_T35 l0 x3_1).f7.f1) ((rd_T35 l0 x3_1).f7.f2) ((rd_T35 l0 x3_1).f7.f3) ((rd_T35 l0 x3_1).f8)) else (none)) else (j8 kj40 l0 x3_1 true ((rd_T35 l0 x3_1).f0.f0) ((rd_T35 l0 x3_1).f0.f1) ((rd_T35 l0 x3_1).f0.f2) ((rd_T35 l0 x3_1).f0.f3) ((rd_T35 l0 x3_1).f0.f4) ((rd_T35 l0 x3_1).f0.f5) ((rd_T35 l0 x3_1).f0.f6) ((rd_T35 l0 x3_1).f1.f0) ((rd_T35 l0 x3_1).f1.f1) ((rd_T35 l0 x3_1).f1.f2) ((rd_T35 l0 x3_1).f1.f3) ((rd_T35 l0 x3_1).f1.f4) ((rd_T35 l0 x3_1).f1.f5) ((rd_T35 l0 x3_1).f2) ((rd_T35 l0 x3_1).f3) ((rd_T35 l0 x3_1).f4) ((rd_T35 l0 x3_1).f5) ((rd_T35 l0 x3_1).f6) ((rd_T35 l0 x3_1).f7.f0) ((rd_T35 l0 x3_1).f7.f1) ((rd_T35 l0 x3_1).f7.f2) ((rd_T35 l0 x3_1).f7.f3) ((rd_T35 l0 x3_1).f8))) else (j8 kj40 l0 x3_1 false ((rd_T35 l0 x3_1).f0.f0) ((rd_T35 l0 x3_1).f0.f1) ((rd_T35 l0 x3_1).f0.f2) ((rd_T35 l0 x3_1).f0.f3) ((rd_T35 l0 x3_1).f0.f4) ((rd_T35 l0 x3_1).f0.f5) ((rd_T35 l0 x3_1).f0.f6) ((rd_T35 l0 x3_1).f1.f0) ((rd_T35 l0 x3_1).f1.f1) ((rd_T35 l0 x3_1).f1.f2) ((rd_T35 l0 x3_1).f1.f3) ((rd_T35 l0 x3_1).f1.f4) ((rd_T35 l0 x3_1).f1.f5) ((rd_T35 l0 x3_1).f2) ((rd_T35 l0 x3_1).f3) ((rd_T35 l0 x3_1).f4) ((rd_T35 l0 x3_1).f5) ((rd_T35 l0 x3_1).f6) ((rd_T35 l0 x3_1).f7.f0) ((rd_T35 l0 x3_1).f7.f1) ((rd_T35 l0 x3_1).f7.f2) ((rd_T35 l0 x3_1).f7.f3) ((rd_T35 l0 x3_1).f8))) = some r := H
   have A47 := Aside0.mk A470
   clear A470
   by_cases c48 : t539 = 0
   rotate_left
   ·as_aux_lemma =>
    rw [if_neg c48] at H
    have c48b0 : (t539 == 0) = false := beq_eq_false_iff_ne.mpr c48
    have c48b1 : (t539 != 0) = true := bne_iff_ne.mpr c48
    (first | rw [c48b0] | (simp only [i64_w, i32_w]; rw [c48b0]) | skip)
    have H' := Aside0.mk H
    clear H
    try go_wp2
    have n0_ := Aside0.mk (Kd.R_drew HO538.out)
    have n1_ := Aside0.mk (blk_drew BK521.out)
    have n2_ := Aside0.mk (below_drew1 HB.out)
    clear HO538
    clear BK521
    clear HB
    have HO538 := n0_
    have BK521 := n1_
    have HB := n2_
    clear n0_ n1_ n2_
    refine start_ (n := 20) (S := fun w' => True) (ds := []) bb22_ (by kernel_rfl) rfl rfl trivial (fun hHeld => ?_); refine with_tabW gangwaylaw20_StatLengths.tab14 gangwaylaw20_StatLengths.bits14 (fun HT_ HW_ => ?_)
    generalize w46.drew = w57 at HO538 BK521 HB hHeld ⊢
    refine pure_ (i := 0) (N := some 88) (v := ?_) (a' := ?_) bb21_ rfl rfl (any_of HT_.out (by kernel_rfl)) (fun _ _ _ h => h) (Or.inl ⟨by rfl, ?_⟩) ?_ ?_
    rotate_left; · intro w'; go_simp; with_reducible rfl
    rotate_left; · simp only [Act.put, e1, e2, e3, i64_w, i32_w]; rfl
    refine one_ (i := 1) (N := some 89) bb20_ rfl rfl (one_of HT_.out (by kernel_rfl)) (by decide) (fun K hK => ?_)
    refine goes_ Try.func19 (by kernel_rfl) rfl #[.int .i64 t536] (by rfl) rfl rfl (by (try simp only [List.map_toArray, List.map_cons, List.map_nil]); first | done | rfl | (simp only [List.length_drop, List.length_take]; rfl)) ?_
    with_reducible refine (gangwaylaw20_num.calls t536 t539 _ A47.out).mono ?_
    rintro e w' ⟨rfl, ⟨nd, rfl⟩⟩
    refine ⟨_, rfl, ?_⟩
    refine hK.out _ _ trivial (fun hHeld => ?_)
    clear hK K
    refine norm_ (a' := ?_) ?_ ?_
    rotate_left
    ·show Act.put _ (some 89) _ = _
     simp only [Act.put, e1, e2, e3, i64_w, i32_w]
     rfl
    refine pure_ (i := 2) (N := some 90) (v := ?_) (a' := ?_) bb19_ rfl rfl (any_of HT_.out (by kernel_rfl)) (fun _ _ _ h => h) (Or.inl ⟨by rfl, ?_⟩) ?_ ?_
    rotate_left; · intro w'; go_simp; with_reducible rfl
    rotate_left; · simp only [Act.put, e1, e2, e3, i64_w, i32_w]; rfl
    refine pure_ (i := 3) (N := some 91) (v := ?_) (a' := ?_) bb18_ rfl rfl (any_of HT_.out (by kernel_rfl)) (fun _ _ _ h => h) (Or.inl ⟨by rfl, ?_⟩) ?_ ?_
    rotate_left; · intro w'; go_simp; with_reducible rfl
    rotate_left; · simp only [Act.put, e1, e2, e3, i64_w, i32_w]; rfl
    refine pure_ (i := 4) (N := some 92) (v := undef) (a' := ?_) bb17_ rfl rfl (any_of HT_.out (by kernel_rfl)) (fun _ _ _ h => h) (Or.inr ⟨by rfl, rfl⟩) ?_ ?_
    rotate_left; · simp only [Act.put, e1, e2, e3, i64_w, i32_w]; rfl
    refine pure_ (i := 5) (N := some 93) (v := undef) (a' := ?_) bb16_ rfl rfl (any_of HT_.out (by kernel_rfl)) (fun _ _ _ h => h) (Or.inr ⟨by rfl, rfl⟩) ?_ ?_
    rotate_left; · simp only [Act.put, e1, e2, e3, i64_w, i32_w]; rfl
    refine pure_ (i := 6) (N := some 94) (v := undef) (a' := ?_) bb15_ rfl rfl (any_of HT_.out (by kernel_rfl)) (fun _ _ _ h => h) (Or.inr ⟨by rfl, rfl⟩) ?_ ?_
    rotate_left; · simp only [Act.put, e1, e2, e3, i64_w, i32_w]; rfl
    refine pure_ (i := 7) (N := some 95) (v := undef) (a' := ?_) bb14_ rfl rfl (any_of HT_.out (by kernel_rfl)) (fun _ _ _ h => h) (Or.inr ⟨by rfl, rfl⟩) ?_ ?_
    rotate_left; · simp only [Act.put, e1, e2, e3, i64_w, i32_w]; rfl
    refine pure_ (i := 8) (N := some 96) (v := undef) (a' := ?_) bb13_ rfl rfl (any_of HT_.out (by kernel_rfl)) (fun _ _ _ h => h) (Or.inr ⟨by rfl, rfl⟩) ?_ ?_
    rotate_left; · simp only [Act.put, e1, e2, e3, i64_w, i32_w]; rfl
    refine pure_ (i := 9) (N := some 97) (v := undef) (a' := ?_) bb12_ rfl rfl (any_of HT_.out (by kernel_rfl)) (fun _ _ _ h => h) (Or.inr ⟨by rfl, rfl⟩) ?_ ?_
    rotate_left; · simp only [Act.put, e1, e2, e3, i64_w, i32_w]; rfl
    refine pure_ (i := 10) (N := some 98) (v := undef) (a' := ?_) bb11_ rfl rfl (any_of HT_.out (by kernel_rfl)) (fun _ _ _ h => h) (Or.inr ⟨by rfl, rfl⟩) ?_ ?_
    rotate_left; · simp only [Act.put, e1, e2, e3, i64_w, i32_w]; rfl
    refine pure_ (i := 11) (N := some 99) (v := undef) (a' := ?_) bb10_ rfl rfl (any_of HT_.out (by kernel_rfl)) (fun _ _ _ h => h) (Or.inr ⟨by rfl, rfl⟩) ?_ ?_
    rotate_left; · simp only [Act.put, e1, e2, e3, i64_w, i32_w]; rfl
    refine pure_ (i := 12) (N := some 100) (v := undef) (a' := ?_) bb9_ rfl rfl (any_of HT_.out (by kernel_rfl)) (fun _ _ _ h => h) (Or.inr ⟨by rfl, rfl⟩) ?_ ?_
    rotate_left; · simp only [Act.put, e1, e2, e3, i64_w, i32_w]; rfl
    refine pure_ (i := 13) (N := some 101) (v := undef) (a' := ?_) bb8_ rfl rfl (any_of HT_.out (by kernel_rfl)) (fun _ _ _ h => h) (Or.inr ⟨by rfl, rfl⟩) ?_ ?_
    rotate_left; · simp only [Act.put, e1, e2, e3, i64_w, i32_w]; rfl
    refine pure_ (i := 14) (N := some 102) (v := undef) (a' := ?_) bb7_ rfl rfl (any_of HT_.out (by kernel_rfl)) (fun _ _ _ h => h) (Or.inr ⟨by rfl, rfl⟩) ?_ ?_
    rotate_left; · simp only [Act.put, e1, e2, e3, i64_w, i32_w]; rfl
    refine pure_ (i := 15) (N := some 103) (v := undef) (a' := ?_) bb5_ rfl rfl (any_of HT_.out (by kernel_rfl)) (fun _ _ _ h => h) (Or.inr ⟨by rfl, rfl⟩) ?_ ?_
    rotate_left; · simp only [Act.put, e1, e2, e3, i64_w, i32_w]; rfl
    refine pure_ (i := 16) (N := some 104) (v := undef) (a' := ?_) bb3_ rfl rfl (any_of HT_.out (by kernel_rfl)) (fun _ _ _ h => h) (Or.inr ⟨by rfl, rfl⟩) ?_ ?_
    rotate_left; · simp only [Act.put, e1, e2, e3, i64_w, i32_w]; rfl
    refine pure_ (i := 17) (N := some 105) (v := undef) (a' := ?_) bb2_ rfl rfl (any_of HT_.out (by kernel_rfl)) (fun _ _ _ h => h) (Or.inr ⟨by rfl, rfl⟩) ?_ ?_
    rotate_left; · simp only [Act.put, e1, e2, e3, i64_w, i32_w]; rfl
    refine pure_ (i := 18) (N := some 106) (v := undef) (a' := ?_) bb1_ rfl rfl (any_of HT_.out (by kernel_rfl)) (fun _ _ _ h => h) (Or.inr ⟨by rfl, rfl⟩) ?_ ?_
    rotate_left; · simp only [Act.put, e1, e2, e3, i64_w, i32_w]; rfl
    refine pure_ (i := 19) (N := some 107) (v := ?_) (a' := ?_) bb0_ rfl rfl (any_of HT_.out (by kernel_rfl)) (fun _ _ _ h => h) (Or.inl ⟨by rfl, ?_⟩) ?_ ?_
    rotate_left; · intro w'; go_simp; with_reducible rfl
    rotate_left; · simp only [Act.put, e1, e2, e3, i64_w, i32_w]; rfl
    refine done_ (done_of HT_.out (by kernel_rfl)) ?_
    try go_wp2
    go_meet
    case rel => exact ⟨_, (false), (by first | rfl | (simp; done) | (simp [*]; done)), H', ⟨by have := HK1.out; have := HJ2.out; have := HJ4.out; have := HJ9.out; have := HJ15.out; have := HJ21.out; have := HJ24.out; have := HJ40.out; first | omega | exact Nat.le_refl _⟩, ⟨by (with_reducible repeat (first | refine blk_drewN ?_ _ | refine blk_drew ?_ | refine blk_alloc ?_ _)); exact BK521.out⟩, ⟨by repeat (first | (with_reducible first | exact HB.out | apply below_alloc | apply pw_below_drewN | apply below_drew1 | refine below_set ?_ GE521.out) | exact HB.out)⟩⟩
   as_aux_lemma =>
   rw [if_pos c48] at H
   have c48b0 : (t539 == 0) = true := beq_iff_eq.mpr c48
   have c48b1 : (t539 != 0) = false := bne_eq_false_iff_eq.mpr c48
   clear c48
   (first | rw [c48b0] | (simp only [i64_w, i32_w]; rw [c48b0]) | skip)
   by_cases c49 : (t535.length : Int) = (wrap64 (24 + (((rd_T35 l0 x3_1).f3).size : Int)))
   rotate_left
   ·as_aux_lemma =>
    rw [if_neg c49] at H
    have c49b0 : ((t535.length : Int) == (wrap64 (24 + (((rd_T35 l0 x3_1).f3).size : Int)))) = false := beq_eq_false_iff_ne.mpr c49
    have c49b1 : ((t535.length : Int) != (wrap64 (24 + (((rd_T35 l0 x3_1).f3).size : Int)))) = true := bne_iff_ne.mpr c49
    have H' := Aside0.mk H
    clear H
    try go_wp2
    have n0_ := Aside0.mk (Kd.R_drew HO538.out)
    have n1_ := Aside0.mk (blk_drew BK521.out)
    have n2_ := Aside0.mk (below_drew1 HB.out)
    clear HO538
    clear BK521
    clear HB
    have HO538 := n0_
    have BK521 := n1_
    have HB := n2_
    clear n0_ n1_ n2_
    obtain ⟨Ao56, co56, eo56⟩ := Kd.R_slice HO538.out
    (first | subst eo56 | (injection eo56 with f1_ f2_ f3_; have f4_ := f1_.symm; have f5_ := f3_.symm; clear f1_ f2_ f3_; subst f4_; subst f5_))
    refine start_ (n := 20) (S := fun w' => w'.cell? ⟨gb521, 14, none⟩ = some (.string ((rd_T35 l0 x3_1).f3))) (ds := []) bb22_ (by kernel_rfl) rfl rfl ((bc BK521 14)) (fun hHeld => ?_); refine with_tabW gangwaylaw20_StatLengths.tab14 gangwaylaw20_StatLengths.bits14 (fun HT_ HW_ => ?_)
    generalize w46.drew = w55 at HO538 BK521 HB hHeld ⊢
    refine pure_ (i := 0) (N := some 88) (v := ?_) (a' := ?_) bb21_ rfl rfl (any_of HT_.out (by kernel_rfl)) (fun _ _ _ h => h) (Or.inl ⟨by rfl, ?_⟩) ?_ ?_
    rotate_left; · intro w'; go_simp; with_reducible rfl
    rotate_left; · simp only [Act.put, e1, e2, e3, i64_w, i32_w]; rfl
    refine one_ (i := 1) (N := some 89) bb20_ rfl rfl (one_of HT_.out (by kernel_rfl)) (by decide) (fun K hK => ?_)
    refine goes_ Try.func19 (by kernel_rfl) rfl #[.int .i64 t536] (by rfl) rfl rfl (by (try simp only [List.map_toArray, List.map_cons, List.map_nil]); first | done | rfl | (simp only [List.length_drop, List.length_take]; rfl)) ?_
    with_reducible refine (gangwaylaw20_num.calls t536 t539 _ A47.out).mono ?_
    rintro e w' ⟨rfl, ⟨nd, rfl⟩⟩
    refine ⟨_, rfl, ?_⟩
    refine hK.out _ _ ((bc BK521 14)) (fun hHeld => ?_)
    clear hK K
    refine norm_ (a' := ?_) ?_ ?_
    rotate_left
    ·show Act.put _ (some 89) _ = _
     simp only [Act.put, e1, e2, e3, i64_w, i32_w]
     rfl
    refine pure_ (i := 2) (N := some 90) (v := ?_) (a' := ?_) bb19_ rfl rfl (any_of HT_.out (by kernel_rfl)) (fun _ _ _ h => h) (Or.inl ⟨by rfl, ?_⟩) ?_ ?_
    rotate_left; · intro w'; go_simp; with_reducible rfl
    rotate_left; · simp only [Act.put, e1, e2, e3, i64_w, i32_w]; rfl
    refine pure_ (i := 3) (N := some 91) (v := ?_) (a' := ?_) bb18_ rfl rfl (any_of HT_.out (by kernel_rfl)) (fun _ _ _ h => h) (Or.inl ⟨by rfl, ?_⟩) ?_ ?_
    rotate_left; · intro w'; go_simp; with_reducible rfl
    rotate_left; · simp only [Act.put, e1, e2, e3, i64_w, i32_w]; rfl
    refine pure_ (i := 4) (N := some 92) (v := ?_) (a' := ?_) bb17_ rfl rfl (any_of HT_.out (by kernel_rfl)) (fun _ _ _ h => h) (Or.inl ⟨by rfl, ?_⟩) ?_ ?_
    rotate_left; · intro w'; go_simp; with_reducible rfl
    rotate_left; · simp only [Act.put, e1, e2, e3, i64_w, i32_w]; rfl
    refine pure_ (i := 5) (N := some 93) (v := ?_) (a' := ?_) bb16_ rfl rfl (any_of HT_.out (by kernel_rfl)) (fun _ _ _ h => h) (Or.inl ⟨by rfl, ?_⟩) ?_ ?_
    rotate_left; · intro w'; go_simp; with_reducible rfl
    rotate_left; · simp only [Act.put, e1, e2, e3, i64_w, i32_w]; rfl
    refine pure_ (i := 6) (N := some 94) (v := ?_) (a' := ?_) bb15_ rfl rfl (any_of HT_.out (by kernel_rfl)) (fun _ _ _ h => h) (Or.inl ⟨by rfl, ?_⟩) ?_ ?_
    rotate_left; · intro w'; go_simp; with_reducible rfl
    rotate_left; · simp only [Act.put, e1, e2, e3, i64_w, i32_w]; rfl
    refine take_ (i := 7) (N := some 95) (v := ?_) (a' := ?_) bb14_ rfl rfl (take_ofW HT_.out HW_.out (by kernel_rfl)) (fun _ _ _ h => h) (Or.inl ⟨by rfl, ?_⟩) hHeld ?_ ?_
    rotate_left; · intro w' s0; go_simp; with_reducible rfl
    rotate_left; · simp only [Act.put, e1, e2, e3, i64_w, i32_w]; rfl
    refine pure_ (i := 8) (N := some 96) (v := ?_) (a' := ?_) bb13_ rfl rfl (any_of HT_.out (by kernel_rfl)) (fun _ _ _ h => h) (Or.inl ⟨by rfl, ?_⟩) ?_ ?_
    rotate_left; · intro w'; go_simp; with_reducible rfl
    rotate_left; · simp only [Act.put, e1, e2, e3, i64_w, i32_w]; rfl
    refine pure_ (i := 9) (N := some 97) (v := ?_) (a' := ?_) bb12_ rfl rfl (any_of HT_.out (by kernel_rfl)) (fun _ _ _ h => h) (Or.inl ⟨by rfl, ?_⟩) ?_ ?_
    rotate_left; · intro w'; go_simp; with_reducible rfl
    rotate_left; · simp only [Act.put, e1, e2, e3, i64_w, i32_w]; rfl
    refine pure_ (i := 10) (N := some 98) (v := ?_) (a' := ?_) bb11_ rfl rfl (any_of HT_.out (by kernel_rfl)) (fun _ _ _ h => h) (Or.inl ⟨by rfl, ?_⟩) ?_ ?_
    rotate_left; · intro w'; go_simp; with_reducible rfl
    rotate_left; · simp only [Act.put, e1, e2, e3, i64_w, i32_w]; rfl
    refine pure_ (i := 11) (N := some 99) (v := ?_) (a' := ?_) bb10_ rfl rfl (any_of HT_.out (by kernel_rfl)) (fun _ _ _ h => h) (Or.inl ⟨by rfl, ?_⟩) ?_ ?_
    rotate_left; · intro w'; go_simp; with_reducible rfl
    rotate_left; · simp only [Act.put, e1, e2, e3, i64_w, i32_w]; rfl
    refine pure_ (i := 12) (N := some 100) (v := undef) (a' := ?_) bb9_ rfl rfl (any_of HT_.out (by kernel_rfl)) (fun _ _ _ h => h) (Or.inr ⟨by rfl, rfl⟩) ?_ ?_
    rotate_left; · simp only [Act.put, e1, e2, e3, i64_w, i32_w]; rfl
    refine pure_ (i := 13) (N := some 101) (v := undef) (a' := ?_) bb8_ rfl rfl (any_of HT_.out (by kernel_rfl)) (fun _ _ _ h => h) (Or.inr ⟨by rfl, rfl⟩) ?_ ?_
    rotate_left; · simp only [Act.put, e1, e2, e3, i64_w, i32_w]; rfl
    refine pure_ (i := 14) (N := some 102) (v := undef) (a' := ?_) bb7_ rfl rfl (any_of HT_.out (by kernel_rfl)) (fun _ _ _ h => h) (Or.inr ⟨by rfl, rfl⟩) ?_ ?_
    rotate_left; · simp only [Act.put, e1, e2, e3, i64_w, i32_w]; rfl
    refine pure_ (i := 15) (N := some 103) (v := undef) (a' := ?_) bb5_ rfl rfl (any_of HT_.out (by kernel_rfl)) (fun _ _ _ h => h) (Or.inr ⟨by rfl, rfl⟩) ?_ ?_
    rotate_left; · simp only [Act.put, e1, e2, e3, i64_w, i32_w]; rfl
    refine pure_ (i := 16) (N := some 104) (v := undef) (a' := ?_) bb3_ rfl rfl (any_of HT_.out (by kernel_rfl)) (fun _ _ _ h => h) (Or.inr ⟨by rfl, rfl⟩) ?_ ?_
    rotate_left; · simp only [Act.put, e1, e2, e3, i64_w, i32_w]; rfl
    refine pure_ (i := 17) (N := some 105) (v := undef) (a' := ?_) bb2_ rfl rfl (any_of HT_.out (by kernel_rfl)) (fun _ _ _ h => h) (Or.inr ⟨by rfl, rfl⟩) ?_ ?_
    rotate_left; · simp only [Act.put, e1, e2, e3, i64_w, i32_w]; rfl
    refine pure_ (i := 18) (N := some 106) (v := ?_) (a' := ?_) bb1_ rfl rfl (any_of HT_.out (by kernel_rfl)) (fun _ _ _ h => h) (Or.inl ⟨by rfl, ?_⟩) ?_ ?_
    rotate_left; · intro w'; go_simp; with_reducible rfl
    rotate_left; · simp only [Act.put, e1, e2, e3, i64_w, i32_w]; rfl
    refine pure_ (i := 19) (N := some 107) (v := ?_) (a' := ?_) bb0_ rfl rfl (any_of HT_.out (by kernel_rfl)) (fun _ _ _ h => h) (Or.inl ⟨by rfl, ?_⟩) ?_ ?_
    rotate_left; · intro w'; go_simp; with_reducible rfl
    rotate_left; · simp only [Act.put, e1, e2, e3, i64_w, i32_w]; rfl
    refine done_ (done_of HT_.out (by kernel_rfl)) ?_
    try go_wp2
    go_meet
    case rel => exact ⟨_, (true), (by first | rfl | (simp; done) | (simp [*]; done)), H', ⟨by have := HK1.out; have := HJ2.out; have := HJ4.out; have := HJ9.out; have := HJ15.out; have := HJ21.out; have := HJ24.out; have := HJ40.out; first | omega | exact Nat.le_refl _⟩, ⟨by (with_reducible repeat (first | refine blk_drewN ?_ _ | refine blk_drew ?_ | refine blk_alloc ?_ _)); exact BK521.out⟩, ⟨by repeat (first | (with_reducible first | exact HB.out | apply below_alloc | apply pw_below_drewN | apply below_drew1 | refine below_set ?_ GE521.out) | exact HB.out)⟩⟩
   as_aux_lemma =>
   rw [if_pos c49] at H
   have c49b0 : ((t535.length : Int) == (wrap64 (24 + (((rd_T35 l0 x3_1).f3).size : Int)))) = true := beq_iff_eq.mpr c49
   have c49b1 : ((t535.length : Int) != (wrap64 (24 + (((rd_T35 l0 x3_1).f3).size : Int)))) = false := bne_eq_false_iff_eq.mpr c49
   clear c49
   by_cases c50 : 24 ≤ (t535.length : Int)
   rotate_left
   ·rw [if_neg c50] at H
    exact absurd H (by simp)
   as_aux_lemma =>
   rw [if_pos c50] at H
   have c50b0 := eq_true c50
   have c50b1 : decide (24 ≤ (t535.length : Int)) = true := decide_eq_true c50
   clear c50
   obtain ⟨y540, hy540⟩ : ∃ y_ : List Int, y_ = (t535.drop 24) := ⟨_, rfl⟩
   replace H : (j8 kj40 l0 x3_1 ((strOfNums y540).toList != ((rd_T35 l0 x3_1).f3).toList) ((rd_T35 l0 x3_1).f0.f0) ((rd_T35 l0 x3_1).f0.f1) ((rd_T35 l0 x3_1).f0.f2) ((rd_T35 l0 x3_1).f0.f3) ((rd_T35 l0 x3_1).f0.f4) ((rd_T35 l0 x3_1).f0.f5) ((rd_T35 l0 x3_1).f0.f6) ((rd_T35 l0 x3_1).f1.f0) ((rd_T35 l0 x3_1).f1.f1) ((rd_T35 l0 x3_1).f1.f2) ((rd_T35 l0 x3_1).f1.f3) ((rd_T35 l0 x3_1).f1.f4) ((rd_T35 l0 x3_1).f1.f5) ((rd_T35 l0 x3_1).f2) ((rd_T35 l0 x3_1).f3) ((rd_T35 l0 x3_1).f4) ((rd_T35 l0 x3_1).f5) ((rd_T35 l0 x3_1).f6) ((rd_T35 l0 x3_1).f7.f0) ((rd_T35 l0 x3_1).f7.f1) ((rd_T35 l0 x3_1).f7.f2) ((rd_T35 l0 x3_1).f7.f3) ((rd_T35 l0 x3_1).f8)) = some r := by first | (rw [hy540]; with_reducible exact H) | (have H2_ := (Option.bind_some _ _).symm.trans H; rw [hy540]; with_reducible exact H2_) | (have H2_ := (Option.bind_some _ _).symm.trans H; with_reducible exact H2_) | with_reducible exact H | (rw [hy540]; exact H) | exact H
   have Ny540 := Aside0.mk hy540
   clear hy540
   have H' := Aside0.mk H
   clear H
   try go_wp2
   have n0_ := Aside0.mk (Kd.R_drew HO538.out)
   have n1_ := Aside0.mk (blk_drew BK521.out)
   have n2_ := Aside0.mk (below_drew1 HB.out)
   clear HO538
   clear BK521
   clear HB
   have HO538 := n0_
   have BK521 := n1_
   have HB := n2_
   clear n0_ n1_ n2_
   obtain ⟨Ao52, co52, eo52⟩ := Kd.R_slice HO538.out
   (first | subst eo52 | (injection eo52 with f1_ f2_ f3_; have f4_ := f1_.symm; have f5_ := f3_.symm; clear f1_ f2_ f3_; subst f4_; subst f5_))
   refine start_ (n := 20) (S := fun w' => w'.cell? ⟨gb521, 14, none⟩ = some (.string ((rd_T35 l0 x3_1).f3))) (ds := []) bb22_ (by kernel_rfl) rfl rfl ((bc BK521 14)) (fun hHeld => ?_); refine with_tabW gangwaylaw20_StatLengths.tab14 gangwaylaw20_StatLengths.bits14 (fun HT_ HW_ => ?_)
   generalize w46.drew = w51 at HO538 BK521 HB hHeld ⊢
   refine pure_ (i := 0) (N := some 88) (v := ?_) (a' := ?_) bb21_ rfl rfl (any_of HT_.out (by kernel_rfl)) (fun _ _ _ h => h) (Or.inl ⟨by rfl, ?_⟩) ?_ ?_
   rotate_left; · intro w'; go_simp; with_reducible rfl
   rotate_left; · simp only [Act.put, e1, e2, e3, i64_w, i32_w]; rfl
   refine one_ (i := 1) (N := some 89) bb20_ rfl rfl (one_of HT_.out (by kernel_rfl)) (by decide) (fun K hK => ?_)
   refine goes_ Try.func19 (by kernel_rfl) rfl #[.int .i64 t536] (by rfl) rfl rfl (by (try simp only [List.map_toArray, List.map_cons, List.map_nil]); first | done | rfl | (simp only [List.length_drop, List.length_take]; rfl)) ?_
   with_reducible refine (gangwaylaw20_num.calls t536 t539 _ A47.out).mono ?_
   rintro e w' ⟨rfl, ⟨nd, rfl⟩⟩
   refine ⟨_, rfl, ?_⟩
   have q53 : (24 : Int) ≤ ((t535.length : Int) : Int) := of_decide_eq_true (by first | (with_reducible assumption) | assumption)
   obtain ⟨i053, hi053, _, hsz53, _⟩ := info_parts info5
   have hroom53 : t535.length ≤ co52 := (Kd.R_reads' HO538.out).2.1
   have hC53 : Kd.C (Kd.int .u8) _ Ao52 t535.length t535 := (Kd.R_reads' HO538.out).2.2
   have hcut53 := cut_from (P := Try.prog) 23 5 .i64 Try.underlying23 hi053 1 hsz53 Ao52 t535.length co52 24 (by omega) q53
   have hr53 := Kd.C_drop (m := (24 : Int).toNat) (c := co52) hC53 (by omega) hroom53
   obtain ⟨A53, hA53⟩ : ∃ A1, A1 = (if co52 = (24 : Int).toNat then Ao52 else (Ao52 : Option Addr).map (·.add ((24 : Int).toNat * 1))) := ⟨_, rfl⟩
   obtain ⟨c53, hc53⟩ : ∃ c1, c1 = co52 - (24 : Int).toNat := ⟨_, rfl⟩
   have hy53 : y540.length = t535.length - (24 : Int).toNat := (by rw [Ny540.out, List.length_drop] <;> omega)
   rw [show (t535).drop (24 : Int).toNat = y540 from Ny540.out.symm] at hr53
   replace hr53 : Kd.C (Kd.int .u8) _ A53 y540.length y540 := (by rw [hA53]; exact hr53)
   rw [← hy53, ← hA53, ← hc53] at hcut53
   have HR543 := Aside0.mk hr53
   have HC543 := Aside0.mk (show y540.length ≤ c53 from by rw [hy53, hc53]; exact Nat.sub_le_sub_right hroom53 _)
   clear hr53 hC53 hroom53 hi053 hsz53 hc53
   have KY53 := Aside0.mk hy53
   have KA53 := Aside0.mk hA53
   clear hy53 hA53
   have KL53 := Aside0.mk (show 24 ≤ t535.length from by omega)
   replace q53 := eq_true q53
   refine hK.out _ _ ((bc BK521 14)) (fun hHeld => ?_)
   clear hK K
   refine norm_ (a' := ?_) ?_ ?_
   rotate_left
   ·show Act.put _ (some 89) _ = _
    simp only [Act.put, e1, e2, e3, i64_w, i32_w]
    rfl
   refine pure_ (i := 2) (N := some 90) (v := ?_) (a' := ?_) bb19_ rfl rfl (any_of HT_.out (by kernel_rfl)) (fun _ _ _ h => h) (Or.inl ⟨by rfl, ?_⟩) ?_ ?_
   rotate_left; · intro w'; go_simp; with_reducible rfl
   rotate_left; · simp only [Act.put, e1, e2, e3, i64_w, i32_w]; rfl
   refine pure_ (i := 3) (N := some 91) (v := ?_) (a' := ?_) bb18_ rfl rfl (any_of HT_.out (by kernel_rfl)) (fun _ _ _ h => h) (Or.inl ⟨by rfl, ?_⟩) ?_ ?_
   rotate_left; · intro w'; go_simp; with_reducible rfl
   rotate_left; · simp only [Act.put, e1, e2, e3, i64_w, i32_w]; rfl
   refine pure_ (i := 4) (N := some 92) (v := ?_) (a' := ?_) bb17_ rfl rfl (any_of HT_.out (by kernel_rfl)) (fun _ _ _ h => h) (Or.inl ⟨by rfl, ?_⟩) ?_ ?_
   rotate_left; · intro w'; go_simp; with_reducible rfl
   rotate_left; · simp only [Act.put, e1, e2, e3, i64_w, i32_w]; rfl
   refine pure_ (i := 5) (N := some 93) (v := ?_) (a' := ?_) bb16_ rfl rfl (any_of HT_.out (by kernel_rfl)) (fun _ _ _ h => h) (Or.inl ⟨by rfl, ?_⟩) ?_ ?_
   rotate_left; · intro w'; go_simp; with_reducible rfl
   rotate_left; · simp only [Act.put, e1, e2, e3, i64_w, i32_w]; rfl
   refine pure_ (i := 6) (N := some 94) (v := ?_) (a' := ?_) bb15_ rfl rfl (any_of HT_.out (by kernel_rfl)) (fun _ _ _ h => h) (Or.inl ⟨by rfl, ?_⟩) ?_ ?_
   rotate_left; · intro w'; go_simp; with_reducible rfl
   rotate_left; · simp only [Act.put, e1, e2, e3, i64_w, i32_w]; rfl
   refine take_ (i := 7) (N := some 95) (v := ?_) (a' := ?_) bb14_ rfl rfl (take_ofW HT_.out HW_.out (by kernel_rfl)) (fun _ _ _ h => h) (Or.inl ⟨by rfl, ?_⟩) hHeld ?_ ?_
   rotate_left; · intro w' s0; go_simp; with_reducible rfl
   rotate_left; · simp only [Act.put, e1, e2, e3, i64_w, i32_w]; rfl
   refine pure_ (i := 8) (N := some 96) (v := ?_) (a' := ?_) bb13_ rfl rfl (any_of HT_.out (by kernel_rfl)) (fun _ _ _ h => h) (Or.inl ⟨by rfl, ?_⟩) ?_ ?_
   rotate_left; · intro w'; go_simp; with_reducible rfl
   rotate_left; · simp only [Act.put, e1, e2, e3, i64_w, i32_w]; rfl
   refine pure_ (i := 9) (N := some 97) (v := ?_) (a' := ?_) bb12_ rfl rfl (any_of HT_.out (by kernel_rfl)) (fun _ _ _ h => h) (Or.inl ⟨by rfl, ?_⟩) ?_ ?_
   rotate_left; · intro w'; go_simp; with_reducible rfl
   rotate_left; · simp only [Act.put, e1, e2, e3, i64_w, i32_w]; rfl
   refine pure_ (i := 10) (N := some 98) (v := ?_) (a' := ?_) bb11_ rfl rfl (any_of HT_.out (by kernel_rfl)) (fun _ _ _ h => h) (Or.inl ⟨by rfl, ?_⟩) ?_ ?_
   rotate_left; · intro w'; go_simp; with_reducible rfl
   rotate_left; · simp only [Act.put, e1, e2, e3, i64_w, i32_w]; rfl
   refine pure_ (i := 11) (N := some 99) (v := ?_) (a' := ?_) bb10_ rfl rfl (any_of HT_.out (by kernel_rfl)) (fun _ _ _ h => h) (Or.inl ⟨by rfl, ?_⟩) ?_ ?_
   rotate_left; · intro w'; go_simp; with_reducible rfl
   rotate_left; · simp only [Act.put, e1, e2, e3, i64_w, i32_w]; rfl
   refine pure_ (i := 12) (N := some 100) (v := ?_) (a' := ?_) bb9_ rfl rfl (any_of HT_.out (by kernel_rfl)) (fun _ _ _ h => h) (Or.inl ⟨by rfl, ?_⟩) ?_ ?_
   rotate_left; · intro w'; go_simp; with_reducible rfl
   rotate_left; · simp only [Act.put, e1, e2, e3, i64_w, i32_w]; rfl
   refine pure_ (i := 13) (N := some 101) (v := ?_) (a' := ?_) bb8_ rfl rfl (any_of HT_.out (by kernel_rfl)) (fun _ _ _ h => h) (Or.inl ⟨by rfl, ?_⟩) ?_ ?_
   rotate_left; · intro w'; go_simp; with_reducible rfl
   rotate_left; · simp only [Act.put, e1, e2, e3, i64_w, i32_w]; rfl
   refine pure_ (i := 15) (N := some 103) (v := ?_) (a' := ?_) bb6_ rfl rfl (any_of HT_.out (by kernel_rfl)) (fun _ _ _ h => h) (Or.inl ⟨by rfl, ?_⟩) ?_ ?_
   rotate_left; · intro w'; go_simp; with_reducible rfl
   rotate_left; · simp only [Act.put, e1, e2, e3, i64_w, i32_w]; rfl
   refine take_ (i := 16) (N := some 104) (v := ?_) (a' := ?_) bb4_ rfl rfl (take_ofW HT_.out HW_.out (by kernel_rfl)) (fun _ _ _ h => h) (Or.inl ⟨by rfl, ?_⟩) hHeld ?_ ?_
   rotate_left; · intro w' s0; go_simp; with_reducible rfl
   rotate_left; · simp only [Act.put, e1, e2, e3, i64_w, i32_w]; rfl
   refine one_ (i := 14) (N := some 102) bb3_ rfl rfl (one_of HT_.out (by kernel_rfl)) (by decide) (fun K hK => ?_)
   have hcv54 := Kd.C_string (P := Try.prog) (A := A53) (c := c53) Try.underlying23 Try.underlying5 Try.underlying9 (by repeat (first | (with_reducible exact HR543.out) | (with_reducible refine Kd.C_alloc ?_ _) | (with_reducible refine Kd.C_drewN ?_ _) | (with_reducible refine Kd.C_drew ?_) | exact HR543.out)); have hcv54n := fun nd_ => Kd.C_string (P := Try.prog) (A := A53) (c := c53) Try.underlying23 Try.underlying5 Try.underlying9 (Kd.C_drewN (by repeat (first | (with_reducible exact HR543.out) | (with_reducible refine Kd.C_alloc ?_ _) | (with_reducible refine Kd.C_drewN ?_ _) | (with_reducible refine Kd.C_drew ?_) | exact HR543.out)) nd_)
   refine value_ (w1 := ?_) (v := ?_) (by rfl) rfl ?_ ?_
   rotate_left 2
   ·go_simp
    constructor
    ·rfl
    rfl
   clear hcv54 hcv54n
   refine hK.out _ _ ((bc BK521 14)) (fun hHeld => ?_)
   clear hK K
   refine norm_ (a' := ?_) ?_ ?_
   rotate_left
   ·show Act.put _ (some 102) _ = _
    simp only [Act.put, e1, e2, e3, i64_w, i32_w]
    rfl
   refine pure_ (i := 17) (N := some 105) (v := ?_) (a' := ?_) bb2_ rfl rfl (any_of HT_.out (by kernel_rfl)) (fun _ _ _ h => h) (Or.inl ⟨by rfl, ?_⟩) ?_ ?_
   rotate_left; · intro w'; go_simp; with_reducible rfl
   rotate_left; · simp only [Act.put, e1, e2, e3, i64_w, i32_w]; rfl
   refine pure_ (i := 18) (N := some 106) (v := ?_) (a' := ?_) bb1_ rfl rfl (any_of HT_.out (by kernel_rfl)) (fun _ _ _ h => h) (Or.inl ⟨by rfl, ?_⟩) ?_ ?_
   rotate_left; · intro w'; go_simp; with_reducible rfl
   rotate_left; · simp only [Act.put, e1, e2, e3, i64_w, i32_w]; rfl
   refine pure_ (i := 19) (N := some 107) (v := ?_) (a' := ?_) bb0_ rfl rfl (any_of HT_.out (by kernel_rfl)) (fun _ _ _ h => h) (Or.inl ⟨by rfl, ?_⟩) ?_ ?_
   rotate_left; · intro w'; go_simp; with_reducible rfl
   rotate_left; · simp only [Act.put, e1, e2, e3, i64_w, i32_w]; rfl
   refine done_ (done_of HT_.out (by kernel_rfl)) ?_
   try go_wp2
   go_meet
   case rel => exact ⟨_, (((strOfNums y540).toList != ((rd_T35 l0 x3_1).f3).toList)), (by first | rfl | (simp; done) | (simp [*]; done)), H', ⟨by have := HK1.out; have := HJ2.out; have := HJ4.out; have := HJ9.out; have := HJ15.out; have := HJ21.out; have := HJ24.out; have := HJ40.out; first | omega | exact Nat.le_refl _⟩, ⟨by (with_reducible repeat (first | refine blk_drewN ?_ _ | refine blk_drew ?_ | refine blk_alloc ?_ _)); exact BK521.out⟩, ⟨by repeat (first | (with_reducible first | exact HB.out | apply below_alloc | apply pw_below_drewN | apply below_drew1 | refine below_set ?_ GE521.out) | exact HB.out)⟩⟩
  case rest =>
  as_aux_lemma =>
  clear HC44
  try clear c1
  try clear c2
  try clear p2
  try clear c3
  try clear c4
  try clear c5
  try clear q5
  try clear hcv5
  try clear p6
  try clear c16
  try clear c19
  try clear c29
  try clear c29b0
  try clear c29b1
  try clear c30
  try clear c30b0
  try clear c30b1
  try clear c31
  try clear c31b0
  try clear c31b1
  try clear c32
  try clear c33
  try clear c42
  try clear c48
  try clear c48b0
  try clear c48b1
  try clear c49
  try clear c49b0
  try clear c49b1
  try clear c50
  try clear c50b0
  try clear c50b1
  try clear c52
  try clear c53
  try clear q53
  try clear hcv54
  try clear hcz45_0
  try clear hcz45_1
  try clear hcz45_10
  try clear hcz45_11
  try clear hcz45_12
  try clear hcz45_13
  try clear hcz45_14
  try clear hcz45_15
  try clear hcz45_16
  try clear hcz45_17
  try clear hcz45_18
  try clear hcz45_19
  try clear hcz45_2
  try clear hcz45_20
  try clear hcz45_21
  try clear hcz45_3
  try clear hcz45_4
  try clear hcz45_5
  try clear hcz45_6
  try clear hcz45_7
  try clear hcz45_8
  try clear hcz45_9
  try clear p2
  try clear p6
  try clear q53
  obtain ⟨kq, x107_43, rfl, HA, HJ43, BK521, HB⟩ := hcut
  cases kq with
  | zero => exact absurd HA.out (by simp [j8])
  | succ kj43 =>
  have H := HA.out
  clear HA
  simp only [j8] at H
  have HC58 := Aside0.mk H
  clear H
  go_upto_if 107 with (fail)
  go_cut [] (fun wc => ∃ (kq : Nat), Aside0 (j9 kq l0 x3_1 ((rd_T35 l0 x3_1).f0.f0) ((rd_T35 l0 x3_1).f0.f1) ((rd_T35 l0 x3_1).f0.f2) ((rd_T35 l0 x3_1).f0.f3) ((rd_T35 l0 x3_1).f0.f4) ((rd_T35 l0 x3_1).f0.f5) ((rd_T35 l0 x3_1).f0.f6) ((rd_T35 l0 x3_1).f1.f0) ((rd_T35 l0 x3_1).f1.f1) ((rd_T35 l0 x3_1).f1.f2) ((rd_T35 l0 x3_1).f1.f3) ((rd_T35 l0 x3_1).f1.f4) ((rd_T35 l0 x3_1).f1.f5) ((rd_T35 l0 x3_1).f2) ((rd_T35 l0 x3_1).f3) ((rd_T35 l0 x3_1).f4) ((rd_T35 l0 x3_1).f5) ((rd_T35 l0 x3_1).f6) ((rd_T35 l0 x3_1).f7.f0) ((rd_T35 l0 x3_1).f7.f1) ((rd_T35 l0 x3_1).f7.f2) ((rd_T35 l0 x3_1).f7.f3) ((rd_T35 l0 x3_1).f8) = some r) ∧ Aside0 (kq ≤ kj43) ∧ Aside0 (wc.heap[gb521]? = some (.cells #[.int .i64 ((rd_T35 l0 x3_1).f0.f0), .int .i64 ((rd_T35 l0 x3_1).f0.f1), .int .i64 ((rd_T35 l0 x3_1).f0.f2), .int .i64 ((rd_T35 l0 x3_1).f0.f3), .int .i64 ((rd_T35 l0 x3_1).f0.f4), .int .i64 ((rd_T35 l0 x3_1).f0.f5), .string ((rd_T35 l0 x3_1).f0.f6), .int .i64 ((rd_T35 l0 x3_1).f1.f0), (.slice A520_8 ((rd_T35 l0 x3_1).f1.f1).length c520_8), (.slice A520_9 ((rd_T35 l0 x3_1).f1.f2).length c520_9), .string ((rd_T35 l0 x3_1).f1.f3), .int .i64 ((rd_T35 l0 x3_1).f1.f4), .int .i64 ((rd_T35 l0 x3_1).f1.f5), .int .i64 ((rd_T35 l0 x3_1).f2), .string ((rd_T35 l0 x3_1).f3), .int .i64 ((rd_T35 l0 x3_1).f4), .int .i64 ((rd_T35 l0 x3_1).f5), .int .i64 ((rd_T35 l0 x3_1).f6), .int .i64 ((rd_T35 l0 x3_1).f7.f0), .int .i64 ((rd_T35 l0 x3_1).f7.f1), .int .i64 ((rd_T35 l0 x3_1).f7.f2), .int .i64 ((rd_T35 l0 x3_1).f7.f3), (.slice A520_22 ((rd_T35 l0 x3_1).f8).length c520_22)] 35 (0, 0))) ∧ Aside0 (Below w.heap.size w wc))
  case first =>
   have H := HC58.out
   clear HC58
   by_cases c59 : x107_43 = true
   ·subst c59
    have H1 : (none) = some r := by rw [if_pos rfl] at H; exact H
    clear H
    have H := H1
    clear H1
    exact absurd H (by simp)
   replace c59 := Bool.eq_false_iff.mpr c59
   subst c59
   have H1 : (j9 kj43 l0 x3_1 ((rd_T35 l0 x3_1).f0.f0) ((rd_T35 l0 x3_1).f0.f1) ((rd_T35 l0 x3_1).f0.f2) ((rd_T35 l0 x3_1).f0.f3) ((rd_T35 l0 x3_1).f0.f4) ((rd_T35 l0 x3_1).f0.f5) ((rd_T35 l0 x3_1).f0.f6) ((rd_T35 l0 x3_1).f1.f0) ((rd_T35 l0 x3_1).f1.f1) ((rd_T35 l0 x3_1).f1.f2) ((rd_T35 l0 x3_1).f1.f3) ((rd_T35 l0 x3_1).f1.f4) ((rd_T35 l0 x3_1).f1.f5) ((rd_T35 l0 x3_1).f2) ((rd_T35 l0 x3_1).f3) ((rd_T35 l0 x3_1).f4) ((rd_T35 l0 x3_1).f5) ((rd_T35 l0 x3_1).f6) ((rd_T35 l0 x3_1).f7.f0) ((rd_T35 l0 x3_1).f7.f1) ((rd_T35 l0 x3_1).f7.f2) ((rd_T35 l0 x3_1).f7.f3) ((rd_T35 l0 x3_1).f8)) = some r := by rw [if_neg (show ¬ (false = true) by decide)] at H; exact H
   clear H
   have H := H1
   clear H1
   have H' := Aside0.mk H
   clear H
   go_wp2
   go_meet
   case rel => exact ⟨_, H', ⟨by have := HK1.out; have := HJ2.out; have := HJ4.out; have := HJ9.out; have := HJ15.out; have := HJ21.out; have := HJ24.out; have := HJ40.out; have := HJ43.out; first | omega | exact Nat.le_refl _⟩, ⟨by (with_reducible repeat (first | refine blk_drewN ?_ _ | refine blk_drew ?_ | refine blk_alloc ?_ _)); exact BK521.out⟩, ⟨by repeat (first | (with_reducible first | exact HB.out | apply below_alloc | apply pw_below_drewN | apply below_drew1 | refine below_set ?_ GE521.out) | exact HB.out)⟩⟩
  case rest =>
  as_aux_lemma =>
  clear HC58
  try clear c1
  try clear c2
  try clear p2
  try clear c3
  try clear c4
  try clear c5
  try clear q5
  try clear hcv5
  try clear p6
  try clear c16
  try clear c19
  try clear c29
  try clear c29b0
  try clear c29b1
  try clear c30
  try clear c30b0
  try clear c30b1
  try clear c31
  try clear c31b0
  try clear c31b1
  try clear c32
  try clear c33
  try clear c42
  try clear c48
  try clear c48b0
  try clear c48b1
  try clear c49
  try clear c49b0
  try clear c49b1
  try clear c50
  try clear c50b0
  try clear c50b1
  try clear c52
  try clear c53
  try clear q53
  try clear hcv54
  try clear c59
  try clear hcz45_0
  try clear hcz45_1
  try clear hcz45_10
  try clear hcz45_11
  try clear hcz45_12
  try clear hcz45_13
  try clear hcz45_14
  try clear hcz45_15
  try clear hcz45_16
  try clear hcz45_17
  try clear hcz45_18
  try clear hcz45_19
  try clear hcz45_2
  try clear hcz45_20
  try clear hcz45_21
  try clear hcz45_3
  try clear hcz45_4
  try clear hcz45_5
  try clear hcz45_6
  try clear hcz45_7
  try clear hcz45_8
  try clear hcz45_9
  try clear p2
  try clear p6
  try clear q5
  try clear q53
  obtain ⟨kq, HA, HJ57, BK521, HB⟩ := hcut
  cases kq with
  | zero => exact absurd HA.out (by simp [j9])
  | succ kj57 =>
  have H := HA.out
  clear HA
  simp only [j9] at H
  replace H := Option.bind_eq_some_iff.mp H
  obtain ⟨⟨t544, t547⟩, A600, H⟩ := H
  replace H : ((gangwaylaw20_num.f t547).bind fun t548 => (if t548 = 0 then (if (t544.length : Int) = 32 then (if 10 < (t544.length : Int) then (if (wrap64 (rd t544 10)) = ((rd_T35 l0 x3_1).f7.f2) then ((stat_Stream.f kj57).bind fun t550 => (if (t550.length : Int) = 64 then ((stat_Prestat.f kj57 ((rd_T35 l0 x3_1).f3)).bind fun t553 => (j10 kj57 l0 x3_1 ((t553.length : Int) != 8))) else (none))) else (none)) else (none)) else (none)) else ((stat_Stream.f kj57).bind fun t556 => (if (t556.length : Int) = 64 then ((stat_Prestat.f kj57 ((rd_T35 l0 x3_1).f3)).bind fun t559 => (j10 kj57 l0 x3_1 ((t559.length : Int) != 8))) else (none))))) = some r := H
  have A60 := Aside0.mk A600
  clear A600
  have HC61 := Aside0.mk H
  clear H
  have hcz62_0 : wc.cell? ⟨gb521, 0, none⟩ = some (.int .i64 ((rd_T35 l0 x3_1).f0.f0)) := bc BK521 0
  have hcz62_1 : wc.cell? ⟨gb521, 1, none⟩ = some (.int .i64 ((rd_T35 l0 x3_1).f0.f1)) := bc BK521 1
  have hcz62_2 : wc.cell? ⟨gb521, 2, none⟩ = some (.int .i64 ((rd_T35 l0 x3_1).f0.f2)) := bc BK521 2
  have hcz62_3 : wc.cell? ⟨gb521, 3, none⟩ = some (.int .i64 ((rd_T35 l0 x3_1).f0.f3)) := bc BK521 3
  have hcz62_4 : wc.cell? ⟨gb521, 4, none⟩ = some (.int .i64 ((rd_T35 l0 x3_1).f0.f4)) := bc BK521 4
  have hcz62_5 : wc.cell? ⟨gb521, 5, none⟩ = some (.int .i64 ((rd_T35 l0 x3_1).f0.f5)) := bc BK521 5
  have hcz62_6 : wc.cell? ⟨gb521, 6, none⟩ = some (.string ((rd_T35 l0 x3_1).f0.f6)) := bc BK521 6
  have hcz62_7 : wc.cell? ⟨gb521, 7, none⟩ = some (.int .i64 ((rd_T35 l0 x3_1).f1.f0)) := bc BK521 7
  have hcz62_8 : wc.cell? ⟨gb521, 8, none⟩ = some (.slice A520_8 ((rd_T35 l0 x3_1).f1.f1).length c520_8) := bc BK521 8
  have hcz62_9 : wc.cell? ⟨gb521, 9, none⟩ = some (.slice A520_9 ((rd_T35 l0 x3_1).f1.f2).length c520_9) := bc BK521 9
  have hcz62_10 : wc.cell? ⟨gb521, 10, none⟩ = some (.string ((rd_T35 l0 x3_1).f1.f3)) := bc BK521 10
  have hcz62_11 : wc.cell? ⟨gb521, 11, none⟩ = some (.int .i64 ((rd_T35 l0 x3_1).f1.f4)) := bc BK521 11
  have hcz62_12 : wc.cell? ⟨gb521, 12, none⟩ = some (.int .i64 ((rd_T35 l0 x3_1).f1.f5)) := bc BK521 12
  have hcz62_13 : wc.cell? ⟨gb521, 13, none⟩ = some (.int .i64 ((rd_T35 l0 x3_1).f2)) := bc BK521 13
  have hcz62_14 : wc.cell? ⟨gb521, 14, none⟩ = some (.string ((rd_T35 l0 x3_1).f3)) := bc BK521 14
  have hcz62_15 : wc.cell? ⟨gb521, 15, none⟩ = some (.int .i64 ((rd_T35 l0 x3_1).f4)) := bc BK521 15
  have hcz62_16 : wc.cell? ⟨gb521, 16, none⟩ = some (.int .i64 ((rd_T35 l0 x3_1).f5)) := bc BK521 16
  have hcz62_17 : wc.cell? ⟨gb521, 17, none⟩ = some (.int .i64 ((rd_T35 l0 x3_1).f6)) := bc BK521 17
  have hcz62_18 : wc.cell? ⟨gb521, 18, none⟩ = some (.int .i64 ((rd_T35 l0 x3_1).f7.f0)) := bc BK521 18
  have hcz62_19 : wc.cell? ⟨gb521, 19, none⟩ = some (.int .i64 ((rd_T35 l0 x3_1).f7.f1)) := bc BK521 19
  have hcz62_20 : wc.cell? ⟨gb521, 20, none⟩ = some (.int .i64 ((rd_T35 l0 x3_1).f7.f2)) := bc BK521 20
  have hcz62_21 : wc.cell? ⟨gb521, 21, none⟩ = some (.int .i64 ((rd_T35 l0 x3_1).f7.f3)) := bc BK521 21
  go_upto_region 17 with (first | ((with_reducible refine gate_callee (f := 10) rfl ?_); refine goesL_ (some 111) rfl rfl Try.func10 (by kernel_rfl) rfl #[.agg #[.int .i64 ((rd_T35 l0 x3_1).f7.f0), .int .i64 ((rd_T35 l0 x3_1).f7.f1), .int .i64 ((rd_T35 l0 x3_1).f7.f2), .int .i64 ((rd_T35 l0 x3_1).f7.f3)]] rfl (by (try simp only [List.map_toArray, List.map_cons, List.map_nil]); first | done | rfl | (simp only [List.length_drop, List.length_take]; rfl)) ?_; (with_reducible refine (stat_Event.calls kj57 ((rd_T35 l0 x3_1).f7.f0) ((rd_T35 l0 x3_1).f7.f1) ((rd_T35 l0 x3_1).f7.f2) ((rd_T35 l0 x3_1).f7.f3) t544 t547 _ A60.out).mono ?_); rintro e w63 ⟨v545, rfl, ho0, hb⟩; refine ⟨_, rfl, ?_⟩; have n0_ := Aside0.mk (Kd.R_lower ho0 (below_size (by repeat (first | (with_reducible first | exact HB.out | apply below_alloc | apply pw_below_drewN | apply below_drew1 | refine below_set ?_ GE521.out) | exact HB.out)))); have n1_ := Aside0.mk (bbelow BK521 (by (with_reducible repeat (first | refine blk_drewN ?_ _ | refine blk_drew ?_ | refine blk_alloc ?_ _)); exact BK521.out) hb); have n2_ := Aside0.mk (below_step (by repeat (first | (with_reducible first | exact HB.out | apply below_alloc | apply pw_below_drewN | apply below_drew1 | refine below_set ?_ GE521.out) | exact HB.out)) hb); clear BK521; clear HB; have HO546 := n0_; have BK521 := n1_; have HB := n2_; clear n0_ n1_ n2_; (try clear hb); (try clear hb2); (try clear hk); (try clear hi); (try clear ho0)))
  (try simp only [Act.put, e1, e2, e3])
  go_cut [143] (fun v143 wc => ∃ (kq : Nat) (x143_60 : Bool), v143 = .bool x143_60 ∧ Aside0 (j10 kq l0 x3_1 x143_60 = some r) ∧ Aside0 (kq ≤ kj57) ∧ Aside0 (wc.heap[gb521]? = some (.cells #[.int .i64 ((rd_T35 l0 x3_1).f0.f0), .int .i64 ((rd_T35 l0 x3_1).f0.f1), .int .i64 ((rd_T35 l0 x3_1).f0.f2), .int .i64 ((rd_T35 l0 x3_1).f0.f3), .int .i64 ((rd_T35 l0 x3_1).f0.f4), .int .i64 ((rd_T35 l0 x3_1).f0.f5), .string ((rd_T35 l0 x3_1).f0.f6), .int .i64 ((rd_T35 l0 x3_1).f1.f0), (.slice A520_8 ((rd_T35 l0 x3_1).f1.f1).length c520_8), (.slice A520_9 ((rd_T35 l0 x3_1).f1.f2).length c520_9), .string ((rd_T35 l0 x3_1).f1.f3), .int .i64 ((rd_T35 l0 x3_1).f1.f4), .int .i64 ((rd_T35 l0 x3_1).f1.f5), .int .i64 ((rd_T35 l0 x3_1).f2), .string ((rd_T35 l0 x3_1).f3), .int .i64 ((rd_T35 l0 x3_1).f4), .int .i64 ((rd_T35 l0 x3_1).f5), .int .i64 ((rd_T35 l0 x3_1).f6), .int .i64 ((rd_T35 l0 x3_1).f7.f0), .int .i64 ((rd_T35 l0 x3_1).f7.f1), .int .i64 ((rd_T35 l0 x3_1).f7.f2), .int .i64 ((rd_T35 l0 x3_1).f7.f3), (.slice A520_22 ((rd_T35 l0 x3_1).f8).length c520_22)] 35 (0, 0))) ∧ Aside0 (Below w.heap.size w wc))
  case first =>
   have H := HC61.out
   clear HC61
   replace H := Option.bind_eq_some_iff.mp H
   obtain ⟨t548, A640, H⟩ := H
   replace H : (if t548 = 0 then (if (t544.length : Int) = 32 then (if 10 < (t544.length : Int) then (if (wrap64 (rd t544 10)) = ((rd_T35 l0 x3_1).f7.f2) then ((stat_Stream.f kj57).bind fun t550 => (if (t550.length : Int) = 64 then ((stat_Prestat.f kj57 ((rd_T35 l0 x3_1).f3)).bind fun t553 => (j10 kj57 l0 x3_1 ((t553.length : Int) != 8))) else (none))) else (none)) else (none)) else (none)) else ((stat_Stream.f kj57).bind fun t556 => (if (t556.length : Int) = 64 then ((stat_Prestat.f kj57 ((rd_T35 l0 x3_1).f3)).bind fun t559 => (j10 kj57 l0 x3_1 ((t559.length : Int) != 8))) else (none)))) = some r := H
   have A64 := Aside0.mk A640
   clear A640
   by_cases c65 : t548 = 0
   rotate_left
   ·as_aux_lemma =>
    rw [if_neg c65] at H
    have c65b0 : (t548 == 0) = false := beq_eq_false_iff_ne.mpr c65
    have c65b1 : (t548 != 0) = true := bne_iff_ne.mpr c65
    (first | rw [c65b0] | (simp only [i64_w, i32_w]; rw [c65b0]) | skip)
    replace H := Option.bind_eq_some_iff.mp H
    obtain ⟨t556, A780, H⟩ := H
    replace H : (if (t556.length : Int) = 64 then ((stat_Prestat.f kj57 ((rd_T35 l0 x3_1).f3)).bind fun t559 => (j10 kj57 l0 x3_1 ((t559.length : Int) != 8))) else (none)) = some r := H
    have A78 := Aside0.mk A780
    clear A780
    by_cases c79 : (t556.length : Int) = 64
    rotate_left
    ·rw [if_neg c79] at H
     exact absurd H (by simp)
    as_aux_lemma =>
    rw [if_pos c79] at H
    have c79b0 : ((t556.length : Int) == 64) = true := beq_iff_eq.mpr c79
    have c79b1 : ((t556.length : Int) != 64) = false := bne_eq_false_iff_eq.mpr c79
    clear c79
    replace H := Option.bind_eq_some_iff.mp H
    obtain ⟨t559, A800, H⟩ := H
    replace H : (j10 kj57 l0 x3_1 ((t559.length : Int) != 8)) = some r := H
    have A80 := Aside0.mk A800
    clear A800
    have H' := Aside0.mk H
    clear H
    try go_wp2
    have n0_ := Aside0.mk (Kd.R_drew HO546.out)
    have n1_ := Aside0.mk (blk_drew BK521.out)
    have n2_ := Aside0.mk (below_drew1 HB.out)
    clear HO546
    clear BK521
    clear HB
    have HO546 := n0_
    have BK521 := n1_
    have HB := n2_
    clear n0_ n1_ n2_
    refine start_ (n := 30) (S := fun w' => w'.cell? ⟨gb521, 14, none⟩ = some (.string ((rd_T35 l0 x3_1).f3)) ∧ w'.cell? ⟨gb521, 20, none⟩ = some (.int .i64 ((rd_T35 l0 x3_1).f7.f2))) (ds := []) bb89_ (by kernel_rfl) rfl rfl ⟨bc BK521 14, bc BK521 20⟩ (fun hHeld => ?_); refine with_tabW gangwaylaw20_StatLengths.tab17 gangwaylaw20_StatLengths.bits17 (fun HT_ HW_ => ?_)
    generalize w63.drew = w81 at HO546 BK521 HB hHeld ⊢
    refine pure_ (i := 0) (N := some 114) (v := ?_) (a' := ?_) bb87_ rfl rfl (any_of HT_.out (by kernel_rfl)) (fun _ _ _ h => h) (Or.inl ⟨by rfl, ?_⟩) ?_ ?_
    rotate_left; · intro w'; go_simp; with_reducible rfl
    rotate_left; · simp only [Act.put, e1, e2, e3, i64_w, i32_w]; rfl
    refine one_ (i := 1) (N := some 115) bb85_ rfl rfl (one_of HT_.out (by kernel_rfl)) (by decide) (fun K hK => ?_)
    refine goes_ Try.func19 (by kernel_rfl) rfl #[.int .i64 t547] (by rfl) rfl rfl (by (try simp only [List.map_toArray, List.map_cons, List.map_nil]); first | done | rfl | (simp only [List.length_drop, List.length_take]; rfl)) ?_
    with_reducible refine (gangwaylaw20_num.calls t547 t548 _ A64.out).mono ?_
    rintro e w' ⟨rfl, ⟨nd, rfl⟩⟩
    refine ⟨_, rfl, ?_⟩
    refine hK.out _ _ ⟨bc BK521 14, bc BK521 20⟩ (fun hHeld => ?_)
    clear hK K
    refine norm_ (a' := ?_) ?_ ?_
    rotate_left
    ·show Act.put _ (some 115) _ = _
     simp only [Act.put, e1, e2, e3, i64_w, i32_w]
     rfl
    refine pure_ (i := 2) (N := some 116) (v := ?_) (a' := ?_) bb83_ rfl rfl (any_of HT_.out (by kernel_rfl)) (fun _ _ _ h => h) (Or.inl ⟨by rfl, ?_⟩) ?_ ?_
    rotate_left; · intro w'; go_simp; with_reducible rfl
    rotate_left; · simp only [Act.put, e1, e2, e3, i64_w, i32_w]; rfl
    refine pure_ (i := 3) (N := some 117) (v := ?_) (a' := ?_) bb81_ rfl rfl (any_of HT_.out (by kernel_rfl)) (fun _ _ _ h => h) (Or.inl ⟨by rfl, ?_⟩) ?_ ?_
    rotate_left; · intro w'; go_simp; with_reducible rfl
    rotate_left; · simp only [Act.put, e1, e2, e3, i64_w, i32_w]; rfl
    refine pure_ (i := 4) (N := some 118) (v := undef) (a' := ?_) bb79_ rfl rfl (any_of HT_.out (by kernel_rfl)) (fun _ _ _ h => h) (Or.inr ⟨by rfl, rfl⟩) ?_ ?_
    rotate_left; · simp only [Act.put, e1, e2, e3, i64_w, i32_w]; rfl
    refine pure_ (i := 5) (N := some 119) (v := undef) (a' := ?_) bb77_ rfl rfl (any_of HT_.out (by kernel_rfl)) (fun _ _ _ h => h) (Or.inr ⟨by rfl, rfl⟩) ?_ ?_
    rotate_left; · simp only [Act.put, e1, e2, e3, i64_w, i32_w]; rfl
    refine pure_ (i := 6) (N := some 120) (v := undef) (a' := ?_) bb75_ rfl rfl (any_of HT_.out (by kernel_rfl)) (fun _ _ _ h => h) (Or.inr ⟨by rfl, rfl⟩) ?_ ?_
    rotate_left; · simp only [Act.put, e1, e2, e3, i64_w, i32_w]; rfl
    refine pure_ (i := 7) (N := some 121) (v := undef) (a' := ?_) bb73_ rfl rfl (any_of HT_.out (by kernel_rfl)) (fun _ _ _ h => h) (Or.inr ⟨by rfl, rfl⟩) ?_ ?_
    rotate_left; · simp only [Act.put, e1, e2, e3, i64_w, i32_w]; rfl
    refine pure_ (i := 8) (N := some 122) (v := undef) (a' := ?_) bb70_ rfl rfl (any_of HT_.out (by kernel_rfl)) (fun _ _ _ h => h) (Or.inr ⟨by rfl, rfl⟩) ?_ ?_
    rotate_left; · simp only [Act.put, e1, e2, e3, i64_w, i32_w]; rfl
    refine pure_ (i := 9) (N := some 123) (v := undef) (a' := ?_) bb67_ rfl rfl (any_of HT_.out (by kernel_rfl)) (fun _ _ _ h => h) (Or.inr ⟨by rfl, rfl⟩) ?_ ?_
    rotate_left; · simp only [Act.put, e1, e2, e3, i64_w, i32_w]; rfl
    refine pure_ (i := 10) (N := some 124) (v := undef) (a' := ?_) bb64_ rfl rfl (any_of HT_.out (by kernel_rfl)) (fun _ _ _ h => h) (Or.inr ⟨by rfl, rfl⟩) ?_ ?_
    rotate_left; · simp only [Act.put, e1, e2, e3, i64_w, i32_w]; rfl
    refine pure_ (i := 11) (N := some 125) (v := undef) (a' := ?_) bb60_ rfl rfl (any_of HT_.out (by kernel_rfl)) (fun _ _ _ h => h) (Or.inr ⟨by rfl, rfl⟩) ?_ ?_
    rotate_left; · simp only [Act.put, e1, e2, e3, i64_w, i32_w]; rfl
    refine pure_ (i := 12) (N := some 126) (v := undef) (a' := ?_) bb56_ rfl rfl (any_of HT_.out (by kernel_rfl)) (fun _ _ _ h => h) (Or.inr ⟨by rfl, rfl⟩) ?_ ?_
    rotate_left; · simp only [Act.put, e1, e2, e3, i64_w, i32_w]; rfl
    refine pure_ (i := 13) (N := some 127) (v := undef) (a' := ?_) bb52_ rfl rfl (any_of HT_.out (by kernel_rfl)) (fun _ _ _ h => h) (Or.inr ⟨by rfl, rfl⟩) ?_ ?_
    rotate_left; · simp only [Act.put, e1, e2, e3, i64_w, i32_w]; rfl
    refine pure_ (i := 14) (N := some 128) (v := undef) (a' := ?_) bb49_ rfl rfl (any_of HT_.out (by kernel_rfl)) (fun _ _ _ h => h) (Or.inr ⟨by rfl, rfl⟩) ?_ ?_
    rotate_left; · simp only [Act.put, e1, e2, e3, i64_w, i32_w]; rfl
    refine pure_ (i := 15) (N := some 129) (v := undef) (a' := ?_) bb46_ rfl rfl (any_of HT_.out (by kernel_rfl)) (fun _ _ _ h => h) (Or.inr ⟨by rfl, rfl⟩) ?_ ?_
    rotate_left; · simp only [Act.put, e1, e2, e3, i64_w, i32_w]; rfl
    refine pure_ (i := 16) (N := some 130) (v := undef) (a' := ?_) bb43_ rfl rfl (any_of HT_.out (by kernel_rfl)) (fun _ _ _ h => h) (Or.inr ⟨by rfl, rfl⟩) ?_ ?_
    rotate_left; · simp only [Act.put, e1, e2, e3, i64_w, i32_w]; rfl
    refine pure_ (i := 17) (N := some 131) (v := ?_) (a' := ?_) bb41_ rfl rfl (any_of HT_.out (by kernel_rfl)) (fun _ _ _ h => h) (Or.inl ⟨by rfl, ?_⟩) ?_ ?_
    rotate_left; · intro w'; go_simp; with_reducible rfl
    rotate_left; · simp only [Act.put, e1, e2, e3, i64_w, i32_w]; rfl
    refine pure_ (i := 18) (N := some 132) (v := ?_) (a' := ?_) bb39_ rfl rfl (any_of HT_.out (by kernel_rfl)) (fun _ _ _ h => h) (Or.inl ⟨by rfl, ?_⟩) ?_ ?_
    rotate_left; · intro w'; go_simp; with_reducible rfl
    rotate_left; · simp only [Act.put, e1, e2, e3, i64_w, i32_w]; rfl
    refine one_ (i := 19) (N := some 133) bb37_ rfl rfl (one_of HT_.out (by kernel_rfl)) (by decide) (fun K hK => ?_)
    refine goes_ Try.func29 (by kernel_rfl) rfl #[] (by rfl) rfl rfl (by (try simp only [List.map_toArray, List.map_cons, List.map_nil]); first | done | rfl | (simp only [List.length_drop, List.length_take]; rfl)) ?_
    with_reducible refine (stat_Stream.calls kj57  t556 _ A78.out).mono ?_
    rintro e w82 ⟨v557, rfl, ho0, hb⟩
    refine ⟨_, rfl, ?_⟩
    have n0_ := Aside0.mk (Kd.R_elder' (by (with_reducible repeat (first | apply Kd.R_alloc | apply Kd.R_drewN | apply Kd.R_drew)); exact HO546.out) (Kd.R_base ho0) hb)
    have n1_ := Aside0.mk (Kd.R_lower (Kd.R_new' ho0 (Kd.R_lt (by (with_reducible repeat (first | apply Kd.R_alloc | apply Kd.R_drewN | apply Kd.R_drew)); exact HO546.out))) (below_size (by repeat (first | (with_reducible first | exact HB.out | apply below_alloc | apply pw_below_drewN | apply below_drew1 | refine below_set ?_ GE521.out) | exact HB.out))))
    have n2_ := Aside0.mk (bbelow BK521 (by (with_reducible repeat (first | refine blk_drewN ?_ _ | refine blk_drew ?_ | refine blk_alloc ?_ _)); exact BK521.out) hb)
    have n3_ := Aside0.mk (below_step (by repeat (first | (with_reducible first | exact HB.out | apply below_alloc | apply pw_below_drewN | apply below_drew1 | refine below_set ?_ GE521.out) | exact HB.out)) hb)
    clear HO546
    clear BK521
    clear HB
    have HO546 := n0_
    have HO558 := n1_
    have BK521 := n2_
    have HB := n3_
    clear n0_ n1_ n2_ n3_
    (try clear hb)
    (try clear hb2)
    (try clear hk)
    (try clear hi)
    (try clear ho0)
    obtain ⟨Ao83, co83, eo83⟩ := Kd.R_slice HO558.out
    (first | subst eo83 | (injection eo83 with f1_ f2_ f3_; have f4_ := f1_.symm; have f5_ := f3_.symm; clear f1_ f2_ f3_; subst f4_; subst f5_))
    refine hK.out _ _ ⟨bc BK521 14, bc BK521 20⟩ (fun hHeld => ?_)
    clear hK K
    refine norm_ (a' := ?_) ?_ ?_
    rotate_left
    ·show Act.put _ (some 133) _ = _
     simp only [Act.put, e1, e2, e3, i64_w, i32_w]
     rfl
    refine pure_ (i := 20) (N := some 134) (v := ?_) (a' := ?_) bb35_ rfl rfl (any_of HT_.out (by kernel_rfl)) (fun _ _ _ h => h) (Or.inl ⟨by rfl, ?_⟩) ?_ ?_
    rotate_left; · intro w'; go_simp; with_reducible rfl
    rotate_left; · simp only [Act.put, e1, e2, e3, i64_w, i32_w]; rfl
    refine pure_ (i := 21) (N := some 135) (v := ?_) (a' := ?_) bb33_ rfl rfl (any_of HT_.out (by kernel_rfl)) (fun _ _ _ h => h) (Or.inl ⟨by rfl, ?_⟩) ?_ ?_
    rotate_left; · intro w'; go_simp; with_reducible rfl
    rotate_left; · simp only [Act.put, e1, e2, e3, i64_w, i32_w]; rfl
    refine pure_ (i := 22) (N := some 136) (v := ?_) (a' := ?_) bb31_ rfl rfl (any_of HT_.out (by kernel_rfl)) (fun _ _ _ h => h) (Or.inl ⟨by rfl, ?_⟩) ?_ ?_
    rotate_left; · intro w'; go_simp; with_reducible rfl
    rotate_left; · simp only [Act.put, e1, e2, e3, i64_w, i32_w]; rfl
    refine pure_ (i := 23) (N := some 137) (v := ?_) (a' := ?_) bb29_ rfl rfl (any_of HT_.out (by kernel_rfl)) (fun _ _ _ h => h) (Or.inl ⟨by rfl, ?_⟩) ?_ ?_
    rotate_left; · intro w'; go_simp; with_reducible rfl
    rotate_left; · simp only [Act.put, e1, e2, e3, i64_w, i32_w]; rfl
    refine pure_ (i := 24) (N := some 138) (v := ?_) (a' := ?_) bb28_ rfl rfl (any_of HT_.out (by kernel_rfl)) (fun _ _ _ h => h) (Or.inl ⟨by rfl, ?_⟩) ?_ ?_
    rotate_left; · intro w'; go_simp; with_reducible rfl
    rotate_left; · simp only [Act.put, e1, e2, e3, i64_w, i32_w]; rfl
    refine take_ (i := 25) (N := some 139) (v := ?_) (a' := ?_) bb27_ rfl rfl (take_ofW HT_.out HW_.out (by kernel_rfl)) (fun _ _ _ h => h) (Or.inl ⟨by rfl, ?_⟩) hHeld ?_ ?_
    rotate_left; · rintro w' ⟨s0, s1⟩; go_simp; with_reducible rfl
    rotate_left; · simp only [Act.put, e1, e2, e3, i64_w, i32_w]; rfl
    refine one_ (i := 26) (N := some 140) bb26_ rfl rfl (one_of HT_.out (by kernel_rfl)) (by decide) (fun K hK => ?_)
    refine goes_ Try.func27 (by kernel_rfl) rfl #[.string ((rd_T35 l0 x3_1).f3)] (by rfl) rfl rfl (by (try simp only [List.map_toArray, List.map_cons, List.map_nil]); first | done | rfl | (simp only [List.length_drop, List.length_take]; rfl)) ?_
    with_reducible refine (stat_Prestat.calls kj57 ((rd_T35 l0 x3_1).f3) t559 _ A80.out).mono ?_
    rintro e w84 ⟨v560, rfl, ho0, hb⟩
    refine ⟨_, rfl, ?_⟩
    have n0_ := Aside0.mk (Kd.R_elder' (by (with_reducible repeat (first | apply Kd.R_alloc | apply Kd.R_drewN | apply Kd.R_drew)); exact HO546.out) (Kd.R_base ho0) hb)
    have n1_ := Aside0.mk (Kd.R_elder' (by (with_reducible repeat (first | apply Kd.R_alloc | apply Kd.R_drewN | apply Kd.R_drew)); exact HO558.out) (Kd.R_base ho0) hb)
    have n2_ := Aside0.mk (Kd.R_lower (Kd.R_new' (Kd.R_new' ho0 (Kd.R_lt (by (with_reducible repeat (first | apply Kd.R_alloc | apply Kd.R_drewN | apply Kd.R_drew)); exact HO546.out))) (Kd.R_lt (by (with_reducible repeat (first | apply Kd.R_alloc | apply Kd.R_drewN | apply Kd.R_drew)); exact HO558.out))) (below_size (by repeat (first | (with_reducible first | exact HB.out | apply below_alloc | apply pw_below_drewN | apply below_drew1 | refine below_set ?_ GE521.out) | exact HB.out))))
    have n3_ := Aside0.mk (bbelow BK521 (by (with_reducible repeat (first | refine blk_drewN ?_ _ | refine blk_drew ?_ | refine blk_alloc ?_ _)); exact BK521.out) hb)
    have n4_ := Aside0.mk (below_step (by repeat (first | (with_reducible first | exact HB.out | apply below_alloc | apply pw_below_drewN | apply below_drew1 | refine below_set ?_ GE521.out) | exact HB.out)) hb)
    clear HO546
    clear HO558
    clear BK521
    clear HB
    have HO546 := n0_
    have HO558 := n1_
    have HO561 := n2_
    have BK521 := n3_
    have HB := n4_
    clear n0_ n1_ n2_ n3_ n4_
    (try clear hb)
    (try clear hb2)
    (try clear hk)
    (try clear hi)
    (try clear ho0)
    obtain ⟨Ao85, co85, eo85⟩ := Kd.R_slice HO561.out
    (first | subst eo85 | (injection eo85 with f1_ f2_ f3_; have f4_ := f1_.symm; have f5_ := f3_.symm; clear f1_ f2_ f3_; subst f4_; subst f5_))
    refine hK.out _ _ ⟨bc BK521 14, bc BK521 20⟩ (fun hHeld => ?_)
    clear hK K
    refine norm_ (a' := ?_) ?_ ?_
    rotate_left
    ·show Act.put _ (some 140) _ = _
     simp only [Act.put, e1, e2, e3, i64_w, i32_w]
     rfl
    refine pure_ (i := 27) (N := some 141) (v := ?_) (a' := ?_) bb25_ rfl rfl (any_of HT_.out (by kernel_rfl)) (fun _ _ _ h => h) (Or.inl ⟨by rfl, ?_⟩) ?_ ?_
    rotate_left; · intro w'; go_simp; with_reducible rfl
    rotate_left; · simp only [Act.put, e1, e2, e3, i64_w, i32_w]; rfl
    refine pure_ (i := 28) (N := some 142) (v := ?_) (a' := ?_) bb24_ rfl rfl (any_of HT_.out (by kernel_rfl)) (fun _ _ _ h => h) (Or.inl ⟨by rfl, ?_⟩) ?_ ?_
    rotate_left; · intro w'; go_simp; with_reducible rfl
    rotate_left; · simp only [Act.put, e1, e2, e3, i64_w, i32_w]; rfl
    refine pure_ (i := 29) (N := some 143) (v := ?_) (a' := ?_) bb23_ rfl rfl (any_of HT_.out (by kernel_rfl)) (fun _ _ _ h => h) (Or.inl ⟨by rfl, ?_⟩) ?_ ?_
    rotate_left; · intro w'; go_simp; with_reducible rfl
    rotate_left; · simp only [Act.put, e1, e2, e3, i64_w, i32_w]; rfl
    refine done_ (done_of HT_.out (by kernel_rfl)) ?_
    try go_wp2
    go_meet
    case rel => exact ⟨_, (((t559.length : Int) != 8)), (by first | rfl | (simp; done) | (simp [*]; done)), H', ⟨by have := HK1.out; have := HJ2.out; have := HJ4.out; have := HJ9.out; have := HJ15.out; have := HJ21.out; have := HJ24.out; have := HJ40.out; have := HJ43.out; have := HJ57.out; first | omega | exact Nat.le_refl _⟩, ⟨by (with_reducible repeat (first | refine blk_drewN ?_ _ | refine blk_drew ?_ | refine blk_alloc ?_ _)); exact BK521.out⟩, ⟨by repeat (first | (with_reducible first | exact HB.out | apply below_alloc | apply pw_below_drewN | apply below_drew1 | refine below_set ?_ GE521.out) | exact HB.out)⟩⟩
   as_aux_lemma =>
   rw [if_pos c65] at H
   have c65b0 : (t548 == 0) = true := beq_iff_eq.mpr c65
   have c65b1 : (t548 != 0) = false := bne_eq_false_iff_eq.mpr c65
   clear c65
   (first | rw [c65b0] | (simp only [i64_w, i32_w]; rw [c65b0]) | skip)
   by_cases c66 : (t544.length : Int) = 32
   rotate_left
   ·rw [if_neg c66] at H
    exact absurd H (by simp)
   as_aux_lemma =>
   rw [if_pos c66] at H
   have c66b0 : ((t544.length : Int) == 32) = true := beq_iff_eq.mpr c66
   have c66b1 : ((t544.length : Int) != 32) = false := bne_eq_false_iff_eq.mpr c66
   clear c66
   by_cases c67 : 10 < (t544.length : Int)
   rotate_left
   ·rw [if_neg c67] at H
    exact absurd H (by simp)
   as_aux_lemma =>
   rw [if_pos c67] at H
   have c67b0 : decide (10 < (t544.length : Int)) = true := decide_eq_true c67
   have c67b1 : decide (10 < t544.length) = true := decide_eq_true (by omega)
   clear c67
   by_cases c68 : (wrap64 (rd t544 10)) = ((rd_T35 l0 x3_1).f7.f2)
   rotate_left
   ·rw [if_neg c68] at H
    exact absurd H (by simp)
   as_aux_lemma =>
   rw [if_pos c68] at H
   have c68b0 : ((wrap64 (rd t544 10)) == ((rd_T35 l0 x3_1).f7.f2)) = true := beq_iff_eq.mpr c68
   have c68b1 : ((wrap64 (rd t544 10)) != ((rd_T35 l0 x3_1).f7.f2)) = false := bne_eq_false_iff_eq.mpr c68
   clear c68
   replace H := Option.bind_eq_some_iff.mp H
   obtain ⟨t550, A690, H⟩ := H
   replace H : (if (t550.length : Int) = 64 then ((stat_Prestat.f kj57 ((rd_T35 l0 x3_1).f3)).bind fun t553 => (j10 kj57 l0 x3_1 ((t553.length : Int) != 8))) else (none)) = some r := H
   have A69 := Aside0.mk A690
   clear A690
   by_cases c70 : (t550.length : Int) = 64
   rotate_left
   ·rw [if_neg c70] at H
    exact absurd H (by simp)
   as_aux_lemma =>
   rw [if_pos c70] at H
   have c70b0 : ((t550.length : Int) == 64) = true := beq_iff_eq.mpr c70
   have c70b1 : ((t550.length : Int) != 64) = false := bne_eq_false_iff_eq.mpr c70
   clear c70
   replace H := Option.bind_eq_some_iff.mp H
   obtain ⟨t553, A710, H⟩ := H
   replace H : (j10 kj57 l0 x3_1 ((t553.length : Int) != 8)) = some r := H
   have A71 := Aside0.mk A710
   clear A710
   have H' := Aside0.mk H
   clear H
   try go_wp2
   have n0_ := Aside0.mk (Kd.R_drew HO546.out)
   have n1_ := Aside0.mk (blk_drew BK521.out)
   have n2_ := Aside0.mk (below_drew1 HB.out)
   clear HO546
   clear BK521
   clear HB
   have HO546 := n0_
   have BK521 := n1_
   have HB := n2_
   clear n0_ n1_ n2_
   obtain ⟨Ao73, co73, eo73⟩ := Kd.R_slice HO546.out
   (first | subst eo73 | (injection eo73 with f1_ f2_ f3_; have f4_ := f1_.symm; have f5_ := f3_.symm; clear f1_ f2_ f3_; subst f4_; subst f5_))
   have p549 : 0 ≤ (10 : Int) := (by omega)
   have q549 : 10 < (t544.length : Int) := of_decide_eq_true (by first | (with_reducible assumption) | assumption)
   obtain ⟨ad549, e549, hx549_0⟩ := Kd.at_int (Kd.R_reads' HO546.out).2.2 10 p549 q549
   cases e549
   (try simp only [show (10 : Int).toNat = 10 from rfl, Nat.reduceMul, Nat.reduceEqDiff, Go.Addr.add, ↓reduceIte] at hx549_0)
   have qi549 : (10 < t544.length) = True := eq_true (by omega)
   (try rw [show ((10 : Int)).toNat = 10 from rfl] at hx549_0)
   replace p549 := eq_true p549
   replace q549 := eq_true q549
   refine start_ (n := 30) (S := fun w' => w'.cell? ⟨gb521, 14, none⟩ = some (.string ((rd_T35 l0 x3_1).f3)) ∧ w'.cell? ⟨gb521, 20, none⟩ = some (.int .i64 ((rd_T35 l0 x3_1).f7.f2)) ∧ w'.cell? ⟨ad549.block, ad549.off + 10, none⟩ = some (.int .u8 (rd t544 10))) (ds := []) bb89_ (by kernel_rfl) rfl rfl ⟨bc BK521 14, bc BK521 20, hx549_0⟩ (fun hHeld => ?_); refine with_tabW gangwaylaw20_StatLengths.tab17 gangwaylaw20_StatLengths.bits17 (fun HT_ HW_ => ?_)
   generalize w63.drew = w72 at HO546 BK521 HB hx549_0 hHeld ⊢
   refine pure_ (i := 0) (N := some 114) (v := ?_) (a' := ?_) bb87_ rfl rfl (any_of HT_.out (by kernel_rfl)) (fun _ _ _ h => h) (Or.inl ⟨by rfl, ?_⟩) ?_ ?_
   rotate_left; · intro w'; go_simp; with_reducible rfl
   rotate_left; · simp only [Act.put, e1, e2, e3, i64_w, i32_w]; rfl
   refine one_ (i := 1) (N := some 115) bb85_ rfl rfl (one_of HT_.out (by kernel_rfl)) (by decide) (fun K hK => ?_)
   refine goes_ Try.func19 (by kernel_rfl) rfl #[.int .i64 t547] (by rfl) rfl rfl (by (try simp only [List.map_toArray, List.map_cons, List.map_nil]); first | done | rfl | (simp only [List.length_drop, List.length_take]; rfl)) ?_
   with_reducible refine (gangwaylaw20_num.calls t547 t548 _ A64.out).mono ?_
   rintro e w' ⟨rfl, ⟨nd, rfl⟩⟩
   refine ⟨_, rfl, ?_⟩
   refine hK.out _ _ ⟨bc BK521 14, bc BK521 20, hHeld.2.2⟩ (fun hHeld => ?_)
   clear hK K
   refine norm_ (a' := ?_) ?_ ?_
   rotate_left
   ·show Act.put _ (some 115) _ = _
    simp only [Act.put, e1, e2, e3, i64_w, i32_w]
    rfl
   refine pure_ (i := 2) (N := some 116) (v := ?_) (a' := ?_) bb83_ rfl rfl (any_of HT_.out (by kernel_rfl)) (fun _ _ _ h => h) (Or.inl ⟨by rfl, ?_⟩) ?_ ?_
   rotate_left; · intro w'; go_simp; with_reducible rfl
   rotate_left; · simp only [Act.put, e1, e2, e3, i64_w, i32_w]; rfl
   refine pure_ (i := 3) (N := some 117) (v := ?_) (a' := ?_) bb81_ rfl rfl (any_of HT_.out (by kernel_rfl)) (fun _ _ _ h => h) (Or.inl ⟨by rfl, ?_⟩) ?_ ?_
   rotate_left; · intro w'; go_simp; with_reducible rfl
   rotate_left; · simp only [Act.put, e1, e2, e3, i64_w, i32_w]; rfl
   refine pure_ (i := 4) (N := some 118) (v := ?_) (a' := ?_) bb79_ rfl rfl (any_of HT_.out (by kernel_rfl)) (fun _ _ _ h => h) (Or.inl ⟨by rfl, ?_⟩) ?_ ?_
   rotate_left; · intro w'; go_simp; with_reducible rfl
   rotate_left; · simp only [Act.put, e1, e2, e3, i64_w, i32_w]; rfl
   refine pure_ (i := 5) (N := some 119) (v := ?_) (a' := ?_) bb77_ rfl rfl (any_of HT_.out (by kernel_rfl)) (fun _ _ _ h => h) (Or.inl ⟨by rfl, ?_⟩) ?_ ?_
   rotate_left; · intro w'; go_simp; with_reducible rfl
   rotate_left; · simp only [Act.put, e1, e2, e3, i64_w, i32_w]; rfl
   refine pure_ (i := 6) (N := some 120) (v := ?_) (a' := ?_) bb75_ rfl rfl (any_of HT_.out (by kernel_rfl)) (fun _ _ _ h => h) (Or.inl ⟨by rfl, ?_⟩) ?_ ?_
   rotate_left; · intro w'; go_simp; with_reducible rfl
   rotate_left; · simp only [Act.put, e1, e2, e3, i64_w, i32_w]; rfl
   refine pure_ (i := 7) (N := some 121) (v := ?_) (a' := ?_) bb73_ rfl rfl (any_of HT_.out (by kernel_rfl)) (fun _ _ _ h => h) (Or.inl ⟨by rfl, ?_⟩) ?_ ?_
   rotate_left; · intro w'; go_simp; with_reducible rfl
   rotate_left; · simp only [Act.put, e1, e2, e3, i64_w, i32_w]; rfl
   refine pure_ (i := 8) (N := some 122) (v := ?_) (a' := ?_) bb70_ rfl rfl (any_of HT_.out (by kernel_rfl)) (fun _ _ _ h => h) (Or.inl ⟨by rfl, ?_⟩) ?_ ?_
   rotate_left; · intro w'; go_simp; with_reducible rfl
   rotate_left; · simp only [Act.put, e1, e2, e3, i64_w, i32_w]; rfl
   refine pure_ (i := 9) (N := some 123) (v := ?_) (a' := ?_) bb67_ rfl rfl (any_of HT_.out (by kernel_rfl)) (fun _ _ _ h => h) (Or.inl ⟨by rfl, ?_⟩) ?_ ?_
   rotate_left; · intro w'; go_simp; with_reducible rfl
   rotate_left; · simp only [Act.put, e1, e2, e3, i64_w, i32_w]; rfl
   refine pure_ (i := 12) (N := some 126) (v := ?_) (a' := ?_) bb63_ rfl rfl (any_of HT_.out (by kernel_rfl)) (fun _ _ _ h => h) (Or.inl ⟨by rfl, ?_⟩) ?_ ?_
   rotate_left; · intro w'; go_simp; with_reducible rfl
   rotate_left; · simp only [Act.put, e1, e2, e3, i64_w, i32_w]; rfl
   refine pure_ (i := 13) (N := some 127) (v := ?_) (a' := ?_) bb59_ rfl rfl (any_of HT_.out (by kernel_rfl)) (fun _ _ _ h => h) (Or.inl ⟨by rfl, ?_⟩) ?_ ?_
   rotate_left; · intro w'; go_simp; with_reducible rfl
   rotate_left; · simp only [Act.put, e1, e2, e3, i64_w, i32_w]; rfl
   refine take_ (i := 10) (N := some 124) (v := ?_) (a' := ?_) bb55_ rfl rfl (take_ofW HT_.out HW_.out (by kernel_rfl)) (fun _ _ _ h => h) (Or.inl ⟨by rfl, ?_⟩) hHeld ?_ ?_
   rotate_left; · rintro w' ⟨s0, s1, s2⟩; go_simp; with_reducible rfl
   rotate_left; · simp only [Act.put, e1, e2, e3, i64_w, i32_w]; rfl
   refine pure_ (i := 11) (N := some 125) (v := ?_) (a' := ?_) bb52_ rfl rfl (any_of HT_.out (by kernel_rfl)) (fun _ _ _ h => h) (Or.inl ⟨by rfl, ?_⟩) ?_ ?_
   rotate_left; · intro w'; go_simp; with_reducible rfl
   rotate_left; · simp only [Act.put, e1, e2, e3, i64_w, i32_w]; rfl
   refine take_ (i := 14) (N := some 128) (v := ?_) (a' := ?_) bb49_ rfl rfl (take_ofW HT_.out HW_.out (by kernel_rfl)) (fun _ _ _ h => h) (Or.inl ⟨by rfl, ?_⟩) hHeld ?_ ?_
   rotate_left; · rintro w' ⟨s0, s1, s2⟩; go_simp; with_reducible rfl
   rotate_left; · simp only [Act.put, e1, e2, e3, i64_w, i32_w]; rfl
   refine pure_ (i := 15) (N := some 129) (v := ?_) (a' := ?_) bb46_ rfl rfl (any_of HT_.out (by kernel_rfl)) (fun _ _ _ h => h) (Or.inl ⟨by rfl, ?_⟩) ?_ ?_
   rotate_left; · intro w'; go_simp; with_reducible rfl
   rotate_left; · simp only [Act.put, e1, e2, e3, i64_w, i32_w]; rfl
   refine pure_ (i := 16) (N := some 130) (v := ?_) (a' := ?_) bb43_ rfl rfl (any_of HT_.out (by kernel_rfl)) (fun _ _ _ h => h) (Or.inl ⟨by rfl, ?_⟩) ?_ ?_
   rotate_left; · intro w'; go_simp; with_reducible rfl
   rotate_left; · simp only [Act.put, e1, e2, e3, i64_w, i32_w]; rfl
   refine pure_ (i := 17) (N := some 131) (v := ?_) (a' := ?_) bb41_ rfl rfl (any_of HT_.out (by kernel_rfl)) (fun _ _ _ h => h) (Or.inl ⟨by rfl, ?_⟩) ?_ ?_
   rotate_left; · intro w'; go_simp; with_reducible rfl
   rotate_left; · simp only [Act.put, e1, e2, e3, i64_w, i32_w]; rfl
   refine pure_ (i := 18) (N := some 132) (v := ?_) (a' := ?_) bb39_ rfl rfl (any_of HT_.out (by kernel_rfl)) (fun _ _ _ h => h) (Or.inl ⟨by rfl, ?_⟩) ?_ ?_
   rotate_left; · intro w'; go_simp; with_reducible rfl
   rotate_left; · simp only [Act.put, e1, e2, e3, i64_w, i32_w]; rfl
   refine one_ (i := 19) (N := some 133) bb37_ rfl rfl (one_of HT_.out (by kernel_rfl)) (by decide) (fun K hK => ?_)
   refine goes_ Try.func29 (by kernel_rfl) rfl #[] (by rfl) rfl rfl (by (try simp only [List.map_toArray, List.map_cons, List.map_nil]); first | done | rfl | (simp only [List.length_drop, List.length_take]; rfl)) ?_
   with_reducible refine (stat_Stream.calls kj57  t550 _ A69.out).mono ?_
   rintro e w74 ⟨v551, rfl, ho0, hb⟩
   have HS2_ := (hb.cell (World.block_lt_of_cell? _ _ (hHeld.2.2))).trans (hHeld.2.2)
   refine ⟨_, rfl, ?_⟩
   have n0_ := Aside0.mk (Kd.R_elder' (by (with_reducible repeat (first | apply Kd.R_alloc | apply Kd.R_drewN | apply Kd.R_drew)); exact HO546.out) (Kd.R_base ho0) hb)
   have n1_ := Aside0.mk (Kd.R_lower (Kd.R_new' ho0 (Kd.R_lt (by (with_reducible repeat (first | apply Kd.R_alloc | apply Kd.R_drewN | apply Kd.R_drew)); exact HO546.out))) (below_size (by repeat (first | (with_reducible first | exact HB.out | apply below_alloc | apply pw_below_drewN | apply below_drew1 | refine below_set ?_ GE521.out) | exact HB.out))))
   have n2_ := Aside0.mk (bbelow BK521 (by (with_reducible repeat (first | refine blk_drewN ?_ _ | refine blk_drew ?_ | refine blk_alloc ?_ _)); exact BK521.out) hb)
   have n3_ := Aside0.mk (below_step (by repeat (first | (with_reducible first | exact HB.out | apply below_alloc | apply pw_below_drewN | apply below_drew1 | refine below_set ?_ GE521.out) | exact HB.out)) hb)
   clear HO546
   clear BK521
   clear HB
   have HO546 := n0_
   have HO552 := n1_
   have BK521 := n2_
   have HB := n3_
   clear n0_ n1_ n2_ n3_
   (try clear hb)
   (try clear hb2)
   (try clear hk)
   (try clear hi)
   (try clear ho0)
   obtain ⟨Ao75, co75, eo75⟩ := Kd.R_slice HO552.out
   (first | subst eo75 | (injection eo75 with f1_ f2_ f3_; have f4_ := f1_.symm; have f5_ := f3_.symm; clear f1_ f2_ f3_; subst f4_; subst f5_))
   refine hK.out _ _ ⟨bc BK521 14, bc BK521 20, HS2_⟩ (fun hHeld => ?_)
   clear hK K
   refine norm_ (a' := ?_) ?_ ?_
   rotate_left
   ·show Act.put _ (some 133) _ = _
    simp only [Act.put, e1, e2, e3, i64_w, i32_w]
    rfl
   refine pure_ (i := 20) (N := some 134) (v := ?_) (a' := ?_) bb35_ rfl rfl (any_of HT_.out (by kernel_rfl)) (fun _ _ _ h => h) (Or.inl ⟨by rfl, ?_⟩) ?_ ?_
   rotate_left; · intro w'; go_simp; with_reducible rfl
   rotate_left; · simp only [Act.put, e1, e2, e3, i64_w, i32_w]; rfl
   refine pure_ (i := 21) (N := some 135) (v := ?_) (a' := ?_) bb33_ rfl rfl (any_of HT_.out (by kernel_rfl)) (fun _ _ _ h => h) (Or.inl ⟨by rfl, ?_⟩) ?_ ?_
   rotate_left; · intro w'; go_simp; with_reducible rfl
   rotate_left; · simp only [Act.put, e1, e2, e3, i64_w, i32_w]; rfl
   refine pure_ (i := 22) (N := some 136) (v := ?_) (a' := ?_) bb31_ rfl rfl (any_of HT_.out (by kernel_rfl)) (fun _ _ _ h => h) (Or.inl ⟨by rfl, ?_⟩) ?_ ?_
   rotate_left; · intro w'; go_simp; with_reducible rfl
   rotate_left; · simp only [Act.put, e1, e2, e3, i64_w, i32_w]; rfl
   refine pure_ (i := 23) (N := some 137) (v := ?_) (a' := ?_) bb29_ rfl rfl (any_of HT_.out (by kernel_rfl)) (fun _ _ _ h => h) (Or.inl ⟨by rfl, ?_⟩) ?_ ?_
   rotate_left; · intro w'; go_simp; with_reducible rfl
   rotate_left; · simp only [Act.put, e1, e2, e3, i64_w, i32_w]; rfl
   refine pure_ (i := 24) (N := some 138) (v := ?_) (a' := ?_) bb28_ rfl rfl (any_of HT_.out (by kernel_rfl)) (fun _ _ _ h => h) (Or.inl ⟨by rfl, ?_⟩) ?_ ?_
   rotate_left; · intro w'; go_simp; with_reducible rfl
   rotate_left; · simp only [Act.put, e1, e2, e3, i64_w, i32_w]; rfl
   refine take_ (i := 25) (N := some 139) (v := ?_) (a' := ?_) bb27_ rfl rfl (take_ofW HT_.out HW_.out (by kernel_rfl)) (fun _ _ _ h => h) (Or.inl ⟨by rfl, ?_⟩) hHeld ?_ ?_
   rotate_left; · rintro w' ⟨s0, s1, s2⟩; go_simp; with_reducible rfl
   rotate_left; · simp only [Act.put, e1, e2, e3, i64_w, i32_w]; rfl
   refine one_ (i := 26) (N := some 140) bb26_ rfl rfl (one_of HT_.out (by kernel_rfl)) (by decide) (fun K hK => ?_)
   refine goes_ Try.func27 (by kernel_rfl) rfl #[.string ((rd_T35 l0 x3_1).f3)] (by rfl) rfl rfl (by (try simp only [List.map_toArray, List.map_cons, List.map_nil]); first | done | rfl | (simp only [List.length_drop, List.length_take]; rfl)) ?_
   with_reducible refine (stat_Prestat.calls kj57 ((rd_T35 l0 x3_1).f3) t553 _ A71.out).mono ?_
   rintro e w76 ⟨v554, rfl, ho0, hb⟩
   have HS2_ := (hb.cell (World.block_lt_of_cell? _ _ (hHeld.2.2))).trans (hHeld.2.2)
   refine ⟨_, rfl, ?_⟩
   have n0_ := Aside0.mk (Kd.R_elder' (by (with_reducible repeat (first | apply Kd.R_alloc | apply Kd.R_drewN | apply Kd.R_drew)); exact HO546.out) (Kd.R_base ho0) hb)
   have n1_ := Aside0.mk (Kd.R_elder' (by (with_reducible repeat (first | apply Kd.R_alloc | apply Kd.R_drewN | apply Kd.R_drew)); exact HO552.out) (Kd.R_base ho0) hb)
   have n2_ := Aside0.mk (Kd.R_lower (Kd.R_new' (Kd.R_new' ho0 (Kd.R_lt (by (with_reducible repeat (first | apply Kd.R_alloc | apply Kd.R_drewN | apply Kd.R_drew)); exact HO546.out))) (Kd.R_lt (by (with_reducible repeat (first | apply Kd.R_alloc | apply Kd.R_drewN | apply Kd.R_drew)); exact HO552.out))) (below_size (by repeat (first | (with_reducible first | exact HB.out | apply below_alloc | apply pw_below_drewN | apply below_drew1 | refine below_set ?_ GE521.out) | exact HB.out))))
   have n3_ := Aside0.mk (bbelow BK521 (by (with_reducible repeat (first | refine blk_drewN ?_ _ | refine blk_drew ?_ | refine blk_alloc ?_ _)); exact BK521.out) hb)
   have n4_ := Aside0.mk (below_step (by repeat (first | (with_reducible first | exact HB.out | apply below_alloc | apply pw_below_drewN | apply below_drew1 | refine below_set ?_ GE521.out) | exact HB.out)) hb)
   clear HO546
   clear HO552
   clear BK521
   clear HB
   have HO546 := n0_
   have HO552 := n1_
   have HO555 := n2_
   have BK521 := n3_
   have HB := n4_
   clear n0_ n1_ n2_ n3_ n4_
   (try clear hb)
   (try clear hb2)
   (try clear hk)
   (try clear hi)
   (try clear ho0)
   obtain ⟨Ao77, co77, eo77⟩ := Kd.R_slice HO555.out
   (first | subst eo77 | (injection eo77 with f1_ f2_ f3_; have f4_ := f1_.symm; have f5_ := f3_.symm; clear f1_ f2_ f3_; subst f4_; subst f5_))
   refine hK.out _ _ ⟨bc BK521 14, bc BK521 20, HS2_⟩ (fun hHeld => ?_)
   clear hK K
   refine norm_ (a' := ?_) ?_ ?_
   rotate_left
   ·show Act.put _ (some 140) _ = _
    simp only [Act.put, e1, e2, e3, i64_w, i32_w]
    rfl
   refine pure_ (i := 27) (N := some 141) (v := ?_) (a' := ?_) bb25_ rfl rfl (any_of HT_.out (by kernel_rfl)) (fun _ _ _ h => h) (Or.inl ⟨by rfl, ?_⟩) ?_ ?_
   rotate_left; · intro w'; go_simp; with_reducible rfl
   rotate_left; · simp only [Act.put, e1, e2, e3, i64_w, i32_w]; rfl
   refine pure_ (i := 28) (N := some 142) (v := ?_) (a' := ?_) bb24_ rfl rfl (any_of HT_.out (by kernel_rfl)) (fun _ _ _ h => h) (Or.inl ⟨by rfl, ?_⟩) ?_ ?_
   rotate_left; · intro w'; go_simp; with_reducible rfl
   rotate_left; · simp only [Act.put, e1, e2, e3, i64_w, i32_w]; rfl
   refine pure_ (i := 29) (N := some 143) (v := ?_) (a' := ?_) bb23_ rfl rfl (any_of HT_.out (by kernel_rfl)) (fun _ _ _ h => h) (Or.inl ⟨by rfl, ?_⟩) ?_ ?_
   rotate_left; · intro w'; go_simp; with_reducible rfl
   rotate_left; · simp only [Act.put, e1, e2, e3, i64_w, i32_w]; rfl
   refine done_ (done_of HT_.out (by kernel_rfl)) ?_
   try go_wp2
   go_meet
   case rel => exact ⟨_, (((t553.length : Int) != 8)), (by first | rfl | (simp; done) | (simp [*]; done)), H', ⟨by have := HK1.out; have := HJ2.out; have := HJ4.out; have := HJ9.out; have := HJ15.out; have := HJ21.out; have := HJ24.out; have := HJ40.out; have := HJ43.out; have := HJ57.out; first | omega | exact Nat.le_refl _⟩, ⟨by (with_reducible repeat (first | refine blk_drewN ?_ _ | refine blk_drew ?_ | refine blk_alloc ?_ _)); exact BK521.out⟩, ⟨by repeat (first | (with_reducible first | exact HB.out | apply below_alloc | apply pw_below_drewN | apply below_drew1 | refine below_set ?_ GE521.out) | exact HB.out)⟩⟩
  case rest =>
  as_aux_lemma =>
  clear HC61
  try clear c1
  try clear c2
  try clear p2
  try clear c5
  try clear p5
  try clear q5
  try clear hx5
  try clear qi5
  try clear c6
  try clear c7
  try clear c19
  try clear c27
  try clear c29
  try clear c52
  try clear p54
  try clear q54
  try clear hx54
  try clear qi54
  try clear c65
  try clear c65b0
  try clear c65b1
  try clear c66
  try clear c67
  try clear c68
  try clear c70
  try clear c79
  try clear c79b0
  try clear c79b1
  try clear hx549_0
  try clear p549
  try clear q549
  obtain ⟨kq, x143_60, rfl, HA, HJ60, BK521, HB⟩ := hcut
  cases kq with
  | zero => exact absurd HA.out (by simp [j10])
  | succ kj60 =>
  have H := HA.out
  clear HA
  simp only [j10] at H
  by_cases c86 : x143_60 = true
  ·subst c86
   have H1 : (none) = some r := by rw [if_pos rfl] at H; exact H
   clear H
   have H := H1
   clear H1
   exact absurd H (by simp)
  replace c86 := Bool.eq_false_iff.mpr c86
  subst c86
  have H1 : (gangwaylaw20_StatLengths.l0 kj60 l0 (wrap64 (x3_1 + 1))) = some r := by rw [if_neg (show ¬ (false = true) by decide)] at H; exact H
  clear H
  have H := H1
  clear H1
  have H' := Aside0.mk H
  clear H
  go_wp2
  go_roundg kj60
  case measure => have := HK1.out; have := HJ2.out; have := HJ4.out; have := HJ9.out; have := HJ15.out; have := HJ21.out; have := HJ24.out; have := HJ40.out; have := HJ43.out; have := HJ57.out; have := HJ60.out; omega
  case rel => exact ⟨(wrap64 (x3_1 + 1)), (by first | rfl | (simp; done) | (simp [*]; done)), H', ⟨by have := HK1.out; have := HJ2.out; have := HJ4.out; have := HJ9.out; have := HJ15.out; have := HJ21.out; have := HJ24.out; have := HJ40.out; have := HJ43.out; have := HJ57.out; have := HJ60.out; omega⟩, ⟨by repeat (first | (with_reducible first | exact HB.out | apply below_alloc | apply pw_below_drewN | apply below_drew1 | refine below_set ?_ GE521.out) | exact HB.out)⟩⟩
 case rest =>
 as_aux_lemma =>
 clear HC2
 try clear c1
 try clear c2
 try clear p2
 try clear c5
 try clear p5
 try clear q5
 try clear hx5
 try clear qi5
 try clear c6
 try clear p6
 try clear c7
 try clear c8
 try clear c19
 try clear c27
 try clear c29
 try clear c52
 try clear p54
 try clear q54
 try clear hx54
 try clear qi54
 try clear p64
 try clear c65
 try clear c65b0
 try clear c65b1
 try clear c66
 try clear c67
 try clear c68
 try clear c70
 try clear c79
 try clear c79b0
 try clear c79b1
 try clear c86
 try clear hx549_0
 try clear p2
 try clear p5
 try clear p54
 try clear p549
 try clear q5
 try clear q54
 try clear q549
 obtain ⟨kq, HA, HJ1, HB⟩ := hcut
 cases kq with
 | zero => exact absurd HA.out (by simp [j11])
 | succ kj1 =>
 have H := HA.out
 clear HA
 simp only [j11] at H
 replace H := Option.bind_eq_some_iff.mp H
 obtain ⟨t562, A870, H⟩ := H
 replace H : (some t562) = some r := H
 have A87 := Aside0.mk A870
 clear A870
 obtain rfl := Option.some.inj H
 go_wp2_with (first | ((with_reducible refine gate_callee (f := 14) rfl ?_); refine goesL_ (some 144) rfl rfl Try.func14 (by kernel_rfl) rfl #[] rfl (by (try simp only [List.map_toArray, List.map_cons, List.map_nil]); first | done | rfl | (simp only [List.length_drop, List.length_take]; rfl)) ?_; (with_reducible refine (gangwaylaw20_wakes.calls kj1  t562 _ A87.out).mono ?_); rintro e w88 ⟨rfl, hb⟩; refine ⟨_, rfl, ?_⟩; have n0_ := Aside0.mk (below_step (by repeat (first | (with_reducible first | exact HB.out | apply below_alloc | apply pw_below_drewN | apply below_drew1) | exact HB.out)) hb); clear HB; have HB := n0_; clear n0_; (try clear hb); (try clear hb2); (try clear hk); (try clear hi)))
 go_ret
 exact ⟨by first | rfl | (simp [errW_none, errW_some] <;> rfl) | (simp [*, errW_none, errW_some] <;> rfl), by repeat (first | (with_reducible first | exact HB.out | apply below_alloc | apply pw_below_drewN | apply below_drew1) | exact HB.out)⟩
/-- THE ONE PURE STATEMENT of gangwaylaw20_StatLengths: yours. -/
def gangwaylaw20_StatLengths.Pure : Prop := ∀ (x0 : List (S35)), (x0.length * 256 ≤ 140737488351232 ∧ ∀ y563 ∈ x0, okT35 y563) → ∃ k, gangwaylaw20_StatLengths.f k x0 = some true
theorem gangwaylaw20_StatLengths.walk (P : gangwaylaw20_StatLengths.Pure) (w : World) (x0 : List (S35)) (A0 : Option Addr) (c0 : Nat) (hr0 : Kd.C k35 w A0 x0.length x0) (hc0 : x0.length ≤ c0) (hok0 : (x0.length * 256 ≤ 140737488351232 ∧ ∀ y564 ∈ x0, okT35 y564)) :
  Calls Try.prog 9 #[.slice A0 x0.length c0] w fun e w' => e = .returned (.bool true) ∧ Below w.heap.size w w' := by
 obtain ⟨k, h⟩ := P x0 hok0
 refine (gangwaylaw20_StatLengths.calls k _ _ x0 true w hr0 hc0 h).mono ?_
 rintro e w' ⟨rfl, hd⟩
 exact ⟨rfl, hd⟩

end Go.Proofs.Ythhmnecnoojcpaa.PAll
