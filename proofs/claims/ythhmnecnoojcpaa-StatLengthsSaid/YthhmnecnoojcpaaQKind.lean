/- The types of files that stat and its reference tell. -/
import Derived.Test.YthhmnecnoojcpaaPAllx5
import Derived.Test.YthhmnecnoojcpaaQSet
namespace Go.Proofs.Ythhmnecnoojcpaa.QKind
open Go.RowKit Go.Proofs.Ythhmnecnoojcpaa.PAll Go.Proofs.YthhmnecnoojcpaaW.PrintWords Go.Proofs.YthhmnecnoojcpaaW.PrintLast Go.Proofs.YthhmnecnoojcpaaW.PrintMore Go.Proofs.YthhmnecnoojcpaaU Go.Proofs.Ythhmnecnoojcpaa.Q
set_option linter.unusedVariables false

def nodeT (a : Int) : Int := if a = 2 then 3 else if a = 1 then 4 else 7

theorem kind_ev (a : Int) : stat_kind.f a = some (decide (a ≥ 1 ∧ a ≤ 3)) := by
  unfold stat_kind.f
  exact ite_dec fun _ => rfl
theorem nodeType_ev (a : Int) : stat_nodeType.f a = some (nodeT a) := by
  unfold stat_nodeType.f nodeT
  by_cases h : a = 2 <;> by_cases h2 : a = 1 <;> simp [h, h2]

def refT (a : Int) : Int := if a = 2 then 3 else if a = 3 then 7 else 4

theorem filetype_ev (a : Int) : gangwayref20_filetype.f a = some (refT a) := by
  unfold gangwayref20_filetype.f refT
  by_cases h : a = 2 <;> by_cases h2 : a = 3 <;> simp [h, h2]
theorem refT_le (a : Int) : le (refT a) 1 = [refT a] := by
  unfold refT
  split
  · decide
  · split <;> decide


end Go.Proofs.Ythhmnecnoojcpaa.QKind
