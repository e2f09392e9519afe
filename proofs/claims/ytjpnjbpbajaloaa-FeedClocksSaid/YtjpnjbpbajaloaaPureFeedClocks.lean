/- Readings come one by one, and then the last one again and again; without any it is always 0; a clock that goes back is refused: for every script. -/
import Derived.Test.YtjpnjbpbajaloaaPAllx3
import Derived.Test.YtjpnjbpbajaloaaQFeed
namespace Go.Proofs.Ytjpnjbpbajaloaa.QC
open Go.RowKit Go.Proofs.Ytjpnjbpbajaloaa.PAll Go.Proofs.YtjpnjbpbajaloaaW.PrintWords Go.Proofs.YtjpnjbpbajaloaaW.PrintLast Go.Proofs.YtjpnjbpbajaloaaW.PrintMore Go.Proofs.YtjpnjbpbajaloaaU Go.Proofs.Ytjpnjbpbajaloaa.Q
set_option linter.unusedVariables false

theorem not54 : ¬ Gd [5, 4] 0 := fun h => absurd ((h 1 (by decide) (by decide)).2 (by decide)) (by decide)
theorem notbig : ¬ Gd [1125899906842625] 0 := fun h => absurd (h 0 (by decide) (by decide)).1.2 (by decide)
theorem loop (c x y : List Int) (L : List S45) (r s : List Int) (hc : c.length < 17592186044416) : ∀ (d i : Nat), i + d = c.length + 5 → Ev (fun k => gangwaylaw23_FeedClocks.l0 k (if i = 0 then 0 else c.getD (min (i - 1) (c.length - 1)) 0) (i : Int) c x y L (at_ c i) r s) true := by
  intro d
  have h5 : wrap64 ((c.length : Int) + 5) = (c.length : Int) + 5 := w64 (by omega) (by omega)
  induction d with
  | zero =>
    intro i hi
    refine Ev.step (fun k => gangwaylaw23_FeedClocks.l0.eq_2 _ _ _ _ _ _ _ _ _ _) ?_
    rw [h5]
    refine Ev.ifn (by omega) ?_
    refine Ev.bd (new_no (by decide) (by decide) (by decide) not54) (Ev.ifn Bool.false_ne_true (Ev.bd (new_no (by decide) (by decide) (by decide) notbig) (Ev.ifn Bool.false_ne_true ?_)))
    exact Ev.val (v := 100) rfl (Ev.ifp rfl (Ev.val (v := 100) rfl (Ev.ifp rfl (Ev.bd wakes_ev (Ev.cst rfl)))))
  | succ d ih =>
    intro i hi
    have hw : wrap64 ((i : Int) + 1) = ((i + 1 : Nat) : Int) := by rw [w64 (by omega) (by omega)]; omega
    have e := ih (i + 1) (by omega)
    refine Ev.step (fun k => gangwaylaw23_FeedClocks.l0.eq_2 _ _ _ _ _ _ _ _ _ _) ?_
    rw [h5, hw]
    refine Ev.ifp (by omega) ?_
    rw [if_neg (by omega), Nat.add_sub_cancel] at e
    by_cases hlt : i < c.length
    · refine Ev.ifp (by omega) (Ev.ifp (by omega) (Ev.val (clock_eq _ _ _) ?_))
      rw [at_tick, at_head, rd_nat]
      rw [show min i (c.length - 1) = i by omega] at e ⊢
      exact Ev.ifp rfl e
    · refine Ev.ifn (by omega) (Ev.val (clock_eq _ _ _) ?_)
      rw [at_tick, at_head]
      by_cases h0 : i = 0
      · subst h0
        rw [if_pos rfl]
        have hz : c.getD (min 0 (c.length - 1)) 0 = 0 := by
          rw [List.getD_eq_getElem?_getD, List.getElem?_eq_none (by omega)]
          rfl
        rw [hz] at e ⊢
        exact Ev.ifp rfl e
      · rw [if_neg h0]
        rw [show min i (c.length - 1) = min (i - 1) (c.length - 1) by omega] at e ⊢
        exact Ev.ifp rfl e
theorem main_ (c x y : List Int) (L : List S45) (hc : c.length < 17592186044416) (hL : L.length < 10000000000000) : Ev (fun k => gangwaylaw23_FeedClocks.f k c x y L) true := by
  obtain ⟨r, e, _⟩ := heavy_ev c x y L hL
  refine Ev.congr (fun k => by rw [gangwaylaw23_FeedClocks.f]) (Ev.bd e ?_)
  cases r with
  | true => exact Ev.ifp rfl (Ev.cst rfl)
  | false =>
    refine Ev.ifn Bool.false_ne_true ?_
    by_cases h : Gd c 0
    · refine Ev.bd (new_ok hc (by decide) (by decide) h) (Ev.ifp rfl (Ev.val (v := 0) rfl (Ev.ifp rfl ?_)))
      have := loop c x y L [] [] hc (c.length + 5) 0 (by omega)
      rw [if_pos rfl, at_zero] at this
      exact this
    · exact Ev.bd (new_no hc (by decide) (by decide) h) (Ev.ifn Bool.false_ne_true (Ev.val (v := 100) rfl (Ev.ifn (by decide) (Ev.bd wakes_ev (Ev.cst rfl)))))
end Go.Proofs.Ytjpnjbpbajaloaa.QC
namespace Go.Proofs.Ytjpnjbpbajaloaa.Pure
open Go.RowKit Go.Proofs.Ytjpnjbpbajaloaa.PAll Go.Proofs.YtjpnjbpbajaloaaW.PrintWords Go.Proofs.Ytjpnjbpbajaloaa.QC
theorem FeedClocks : gangwaylaw23_FeedClocks.Pure := by
  intro x0 h
  obtain ⟨h1, h2⟩ := h
  exact Ev.rounds (main_ _ _ _ x0.f1 (by have := h1.1.1; omega) (by have := h2.1; omega))
end Go.Proofs.Ytjpnjbpbajaloaa.Pure
