/- Whether any instructions may be is the page's: for every list of asks. -/
import Derived.Test.YtlahigmoljflkaaPAllx14
import Derived.Test.YtlahigmoljflkaaQCode
namespace Go.Proofs.Ytlahigmoljflkaa.Pure
open Go.RowKit Go.Proofs.Ytlahigmoljflkaa.PAll Go.Proofs.YtlahigmoljflkaaW.PrintWords Go.Proofs.YtlahigmoljflkaaW.PrintLast Go.Proofs.YtlahigmoljflkaaW.PrintMore Go.Proofs.YtlahigmoljflkaaU Go.Proofs.Ytlahigmoljflkaa.Q
set_option linter.unusedVariables false
theorem checks_l0 (L : List S26) (hL : L.length ≤ 9223372036854775807) (hok : ∀ x ∈ L, okT26 x) : ∀ (d j : Nat), j + d = L.length → Ev (fun k => gangwaylaw5_CodeChecks.l0 k L (j : Int)) true := by
  intro d
  induction d with
  | zero =>
    intro j hj
    refine Ev.step (fun k => by rw [gangwaylaw5_CodeChecks.l0]) ?_
    refine Ev.ifn (by omega) ?_
    refine Ev.step (fun k => by rw [gangwaylaw5_CodeChecks.j1]) ?_
    refine Ev.ifn (by decide) ?_
    exact Ev.bd wakes_ev (Ev.now _)
  | succ d ih =>
    intro j hj
    have e3 : wrap64 ((j : Int) + 1) = ((j + 1 : Nat) : Int) := by rw [w64 (by omega) (by omega)]; omega
    have hg := rd26_nat L j (by omega)
    obtain ⟨⟨hl, hi⟩, _⟩ := okT26_open (hok _ (List.getElem_mem (by omega : j < L.length)))
    refine Ev.step (fun k => by rw [gangwaylaw5_CodeChecks.l0]) ?_
    refine Ev.ifp (by omega) ?_
    refine Ev.step (fun k => by rw [gangwaylaw5_CodeChecks.j1]) ?_
    by_cases h10 : (j : Int) < 10
    · refine Ev.ifp (decide_eq_true h10) (Ev.ifp (by omega) (Ev.ifp (by omega) ?_))
      rw [hg]
      obtain ⟨r, hr⟩ := heavy_ev _ (L[j]'(by omega)).f1 hl hi
      refine Ev.bd hr ?_
      by_cases hrt : r = true
      · exact Ev.ifp hrt (Ev.now _)
      · refine Ev.ifn hrt ?_
        refine Ev.bd (check_ev _ hl hi) ?_
        refine Ev.val (v := (if ((L[j]'(by omega)).f0).all (mayI 40) = true then 0 else 100 : Int)) rfl ?_
        refine Ev.bd (May_ev 40 (by omega) _ hl hi) ?_
        rw [e3]
        by_cases hc : ((L[j]'(by omega)).f0).all (mayI 40) = true
        · rw [if_pos hc, hc]
          refine Ev.ifn (by decide) ?_
          exact Ev.ifp rfl (ih (j + 1) (by omega))
        · rw [if_neg hc, Bool.eq_false_iff.mpr hc]
          refine Ev.ifn (by decide) (Ev.ifn (by decide) ?_)
          refine Ev.bd (check_ev _ hl hi) ?_
          rw [if_neg hc]
          refine Ev.val (v := (100 : Int)) rfl ?_
          exact Ev.ifp rfl (ih (j + 1) (by omega))
    · refine Ev.ifn (by rw [decide_eq_false h10]; decide) ?_
      exact Ev.bd wakes_ev (Ev.now _)
theorem CodeChecks : gangwaylaw5_CodeChecks.Pure := by
  rintro L ⟨hL, hok⟩
  exact (checks_l0 L (by omega) hok L.length 0 (by omega)).rounds
end Go.Proofs.Ytlahigmoljflkaa.Pure
