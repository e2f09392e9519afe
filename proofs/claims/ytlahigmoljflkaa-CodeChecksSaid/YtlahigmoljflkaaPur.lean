/- Plain lemmas on numbers and lists of bytes, for the pure statements. -/
import Derived.Test.YtlahigmoljflkaaWWords
import Derived.Test.YtlahigmoljflkaaWLast
import Derived.Test.YtlahigmoljflkaaWMore
import Derived.Laws.BitsLemmas
namespace Go.Proofs.YtlahigmoljflkaaU
open Go.RowKit Go.Proofs.YtlahigmoljflkaaW.PrintWords Go.Proofs.YtlahigmoljflkaaW.PrintLast Go.Proofs.YtlahigmoljflkaaW.PrintMore
set_option linter.unusedVariables false

theorem w64 {x : Int} (h0 : -9223372036854775808 ≤ x) (h1 : x ≤ 9223372036854775807) : wrap64 x = x := by
  unfold wrap64
  omega

theorem bd64 {x : Int} (h : (Lit.int .i64 x).wf = true) : -9223372036854775808 ≤ x ∧ x ≤ 9223372036854775807 := by
  simpa [Lit.wf, IntKind.min, IntKind.max, IntKind.signed, IntKind.bits] using h

theorem bd8 {x : Int} (h : (Lit.int .u8 x).wf = true) : 0 ≤ x ∧ x ≤ 255 := by
  simpa [Lit.wf, IntKind.min, IntKind.max, IntKind.signed, IntKind.bits] using h

theorem rd_nat (xs : List Int) (i : Nat) : rd xs (i : Int) = xs.getD i 0 := rfl

theorem ite_dec {c p : Prop} [Decidable c] [Decidable p] {A : Option Bool} (h : c → A = some (decide p)) : (if c then A else some false) = some (decide (c ∧ p)) := by
  by_cases hc : c
  · rw [if_pos hc, h hc]; simp [hc]
  · rw [if_neg hc]; simp [hc]
theorem bind_dec {c p : Prop} [Decidable c] [Decidable p] {A : Option Bool} (h : c → A = some (decide p)) : ((some (decide c)).bind fun t => if t = true then A else some false) = some (decide (c ∧ p)) := by
  by_cases hc : c
  · simp [hc, h hc]
  · simp [hc]
end Go.Proofs.YtlahigmoljflkaaU
