/- What instructions may be: the program's answer and the reference's, told as one plain function. -/
import Derived.Test.YtlahigmoljflkaaPAllx1
import Derived.Test.YtlahigmoljflkaaPAllx0
import Derived.Test.YtlahigmoljflkaaPAllx15
import Derived.Test.YtlahigmoljflkaaPAllx18
import Derived.Test.YtlahigmoljflkaaPAllx3
import Derived.Test.YtlahigmoljflkaaPAllx8
import Derived.Test.YtlahigmoljflkaaPAllx16
import Derived.Test.YtlahigmoljflkaaPAllx19
import Derived.Test.YtlahigmoljflkaaEvs
namespace Go.Proofs.Ytlahigmoljflkaa.Q
open Go.RowKit Go.Proofs.Ytlahigmoljflkaa.PAll Go.Proofs.YtlahigmoljflkaaW.PrintWords Go.Proofs.YtlahigmoljflkaaW.PrintLast Go.Proofs.YtlahigmoljflkaaW.PrintMore Go.Proofs.YtlahigmoljflkaaU
set_option linter.unusedVariables false

/-- A number of 32 bits. -/
def W (n : Int) : Prop := 0 ≤ n ∧ n < 4294967296
instance (n : Int) : Decidable (W n) := inferInstanceAs (Decidable (_ ∧ _))
def T (t : Int) : Prop := t = 64 ∨ t = 127 ∨ t = 126
instance (n : Int) : Decidable (T n) := inferInstanceAs (Decidable (_ ∨ _))
theorem Ev.to {α : Type} {g : Nat → Option α} {r r' : α} (h : Ev g r) (e : r = r') : Ev g r' := e ▸ h
theorem W0 : W 0 := ⟨by decide, by decide⟩
theorem wakes_ev : Ev (fun k => gangwaylaw5_wakes.f k) true := Ev.of (fun k => gangwaylaw5_wakes.mono k) (k := 60) (by decide +kernel)
end Go.Proofs.Ytlahigmoljflkaa.Q
