/- By some bits just the numbers that have them are read: for every list of asks. -/
import Derived.Test.YtgmlnigelbplnaaPAllx10
import Derived.Test.YtgmlnigelbplnaaPur
namespace Go.Proofs.Ytgmlnigelbplnaa.Pure
open Go.RowKit Go.Proofs.Ytgmlnigelbplnaa.PAll Go.Proofs.YtgmlnigelbplnaaW.PrintWords Go.Proofs.YtgmlnigelbplnaaW.PrintLast Go.Proofs.YtgmlnigelbplnaaW.PrintMore Go.Proofs.YtgmlnigelbplnaaU
set_option linter.unusedVariables false

theorem small_nil (l : List S26) : ∀ k i, gangwaylaw1_LebSmall.l0 k l i = gangwaylaw1_LebSmall.l0 k [] i := by
  intro k
  induction k with
  | zero => intro i; rfl
  | succ k ih =>
    intro i
    simp only [gangwaylaw1_LebSmall.l0]
    simp only [ih]
    by_cases h : i < 64
    · rw [if_pos h, if_pos h]
    · rw [if_neg h, if_neg h, if_pos (by omega), if_pos (by simp)]

theorem small_all : gangwaylaw1_LebSmall.l0 200 [] 1 = some true := by decide +kernel

theorem LebSmall : gangwaylaw1_LebSmall.Pure := by
  intro l _
  refine ⟨200, ?_⟩
  show gangwaylaw1_LebSmall.l0 200 l 1 = some true
  rw [small_nil]
  exact small_all

end Go.Proofs.Ytgmlnigelbplnaa.Pure
