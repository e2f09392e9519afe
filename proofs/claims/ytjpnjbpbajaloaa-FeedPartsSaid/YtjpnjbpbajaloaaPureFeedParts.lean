/- Taken in parts bytes are as in one; clocks never go back; behind all the last reading comes again, and noughts: for every script. -/
import Derived.Test.YtjpnjbpbajaloaaPAllx6
import Derived.Test.YtjpnjbpbajaloaaQTake
namespace Go.Proofs.Ytjpnjbpbajaloaa.QP
open Go.RowKit Go.Proofs.Ytjpnjbpbajaloaa.PAll Go.Proofs.YtjpnjbpbajaloaaW.PrintWords Go.Proofs.YtjpnjbpbajaloaaW.PrintLast Go.Proofs.YtjpnjbpbajaloaaW.PrintMore Go.Proofs.YtjpnjbpbajaloaaU Go.Proofs.Ytjpnjbpbajaloaa.Q
set_option linter.unusedVariables false

theorem l1_ev (c r s : List Int) (L : List S45) (q : Nat) (hq : q < 100000000) : ∀ (d j : Nat), j + d = q → Ev (fun k => gangwaylaw23_FeedParts.l1 k (pad r q) (j : Int) c r s L) true := by
  intro d
  have hl := pad_length r q
  induction d with
  | zero =>
    intro j hj
    refine Ev.step (fun k => gangwaylaw23_FeedParts.l1.eq_2 _ _ _ _ _ _ _) (Ev.ifn (by omega) ?_)
    exact Ev.bd wakes_ev (Ev.cst rfl)
  | succ d ih =>
    intro j hj
    have hw : wrap64 ((j : Int) + 1) = ((j + 1 : Nat) : Int) := by rw [w64 (by omega) (by omega)]; omega
    have e := ih (j + 1) (by omega)
    have hg := pad_getD r q j (by omega)
    refine Ev.step (fun k => gangwaylaw23_FeedParts.l1.eq_2 _ _ _ _ _ _ _) (Ev.ifp (by omega) ?_)
    rw [hw, rd_nat, rd_nat, hg]
    by_cases hj : j < r.length
    · rw [if_pos hj]
      exact Ev.ifp (by omega) (Ev.ifp (by omega) (Ev.ifp rfl e))
    · rw [if_neg hj]
      exact Ev.ifn (by omega) (Ev.ifp (by omega) (Ev.ifp rfl e))
theorem fin (c r s : List Int) (L : List S45) (hs : s.length < 140737488355328) (q p : Nat) (hq : q < 100000000) (cc rr : List Int) (x i : Int) :
    Ev (fun k => gangwaylaw23_FeedParts.j1 k (s.take p) (pad r q) x i false c r s L cc rr (s.drop p)) true := by
  refine Ev.step (fun k => gangwaylaw23_FeedParts.j1.eq_2 _ _ _ _ _ _ _ _ _ _ _ _ _) (Ev.ifn Bool.false_ne_true (Ev.val (left_eq _ _ _) ?_))
  have h1 : (s.take p).length = min p s.length := List.length_take
  have h2 : (s.drop p).length = s.length - p := List.length_drop
  refine Ev.ifp (by rw [w64 (by omega) (by omega)]; omega) (Ev.ifp (by omega) (Ev.ifp (by omega) ?_))
  rw [show (s.take (((s.take p).length : Int)).toNat) = s.take p from by
    rw [Int.toNat_natCast, h1]
    rcases Nat.le_total p s.length with h | h
    · rw [Nat.min_eq_left h]
    · rw [Nat.min_eq_right h, List.take_of_length_le (Nat.le_refl _), List.take_of_length_le h]]
  exact Ev.bd (eqb_self _ (by omega)) (Ev.ifp rfl (l1_ev c r s L q hq q 0 (by omega)))
/-- The reading that was told last, of i. -/
def last (c : List Int) (i : Nat) : Int := if i = 0 then 0 else c.getD (min (i - 1) (c.length - 1)) 0
theorem last_le (c : List Int) (h : Gd c 0) (i : Nat) : last c i ≤ (at_ c i).getD 0 0 := by
  rw [at_head]
  unfold last
  by_cases hc : c.length = 0
  · rw [List.length_eq_zero_iff.1 hc]
    split <;> simp
  · by_cases h0 : i = 0
    · subst h0
      rw [if_pos rfl]
      exact (h (min 0 (c.length - 1)) (by omega) (by omega)).1.1
    · rw [if_neg h0]
      by_cases h1 : i < c.length
      · have := (h i (by omega) h1).2 (by omega)
        rw [show min i (c.length - 1) = i by omega, show min (i - 1) (c.length - 1) = i - 1 by omega]
        exact this
      · rw [show min i (c.length - 1) = min (i - 1) (c.length - 1) by omega]
        exact Int.le_refl _
theorem loop (c r s : List Int) (L : List S45) (hc : Gd c 0) (hs : s.length < 140737488355300) (hL : L.length < 10000000000000) : ∀ (d i : Nat), i + d = 40 → ∀ (p q : Nat), q ≤ 50 * i →
    Ev (fun k => gangwaylaw23_FeedParts.l0 k (s.take p) (pad r q) (last c i) (i : Int) c r s L (at_ c i) (r.drop q) (s.drop p)) true := by
  intro d
  induction d with
  | zero =>
    intro i hi p q hq
    refine Ev.step (fun k => gangwaylaw23_FeedParts.l0.eq_2 _ _ _ _ _ _ _ _ _ _ _ _) ?_
    by_cases hlt : (i : Int) < (L.length : Int)
    · refine Ev.ifp hlt ?_
      rw [decide_eq_false (by omega)]
      exact fin c r s L (by omega) q p (by omega) _ _ _ _
    · exact Ev.ifn hlt (fin c r s L (by omega) q p (by omega) _ _ _ _)
  | succ d ih =>
    intro i hi p q hq
    refine Ev.step (fun k => gangwaylaw23_FeedParts.l0.eq_2 _ _ _ _ _ _ _ _ _ _ _ _) ?_
    by_cases hlt : (i : Int) < (L.length : Int)
    · refine Ev.ifp hlt ?_
      rw [decide_eq_true (show (i : Int) < 40 by omega)]
      refine Ev.step (fun k => gangwaylaw23_FeedParts.j1.eq_2 _ _ _ _ _ _ _ _ _ _ _ _ _) (Ev.ifp rfl (Ev.ifp (by omega) (Ev.ifp hlt ?_)))
      refine Ev.val (within_eq _ 50 (by omega) (by omega)) ?_
      have hn : 0 ≤ (rd_T45 L (i : Int)).f1 % 18446744073709551616 % 50 ∧ (rd_T45 L (i : Int)).f1 % 18446744073709551616 % 50 < 50 := by omega
      generalize (rd_T45 L (i : Int)).f1 % 18446744073709551616 % 50 = n at *
      have hw : wrap64 ((i : Int) + 1) = ((i + 1 : Nat) : Int) := by rw [w64 (by omega) (by omega)]; omega
      refine Ev.val (stdin_ok _ _ _ (by omega)) (Ev.val (random_ok _ _ _ (by omega)) (Ev.val (clock_eq _ _ _) (Ev.val (v := 0) rfl (Ev.ifp rfl (Ev.val (v := 0) rfl (Ev.ifp rfl ?_))))))
      dsimp only
      have h1 : (s.take p).length = min p s.length := List.length_take
      have h2 : ((s.drop p).take n.toNat).length = min n.toNat (s.length - p) := by rw [List.length_take, List.length_drop]
      have h3 := pad_length (r.drop q) n.toNat
      have h4 := pad_length r q
      refine Ev.ifp (by omega) (Ev.ifn (by omega) (Ev.ifn (by have := last_le c hc i; omega) (Ev.ifp (by omega) (Ev.ifp (by omega) ?_))))
      have e := ih (i + 1) (by omega) (p + n.toNat) (q + n.toNat) (by omega)
      rw [List.take_add, ← pad_add, ← at_tick, ← List.drop_drop, ← List.drop_drop] at e
      rw [hw]
      have hl : last c (i + 1) = (at_ c i).getD 0 0 := by
        rw [at_head]
        unfold last
        rw [if_neg (by omega), Nat.add_sub_cancel]
      rw [hl] at e
      exact e
    · exact Ev.ifn hlt (fin c r s L (by omega) q p (by omega) _ _ _ _)
theorem main_ (c r s : List Int) (L : List S45) (hc : c.length < 17592186044416) (hr : r.length < 140737488355300) (hs : s.length < 140737488355300) (hL : L.length < 10000000000000) : Ev (fun k => gangwaylaw23_FeedParts.f k c r s L) true := by
  obtain ⟨b, e, _⟩ := heavy_ev c r s L hL
  refine Ev.congr (fun k => by rw [gangwaylaw23_FeedParts.f]) (Ev.bd e ?_)
  cases b with
  | true => exact Ev.ifp rfl (Ev.cst rfl)
  | false =>
    refine Ev.ifn Bool.false_ne_true ?_
    by_cases h : Gd c 0
    · refine Ev.bd (new_ok hc (by omega) (by omega) h) (Ev.ifp rfl (Ev.val (v := 0) rfl (Ev.ifp rfl ?_)))
      have := loop c r s L h hs hL 40 0 (by omega) 0 0 (by omega)
      rw [at_zero, show pad r 0 = [] by simp [pad]] at this
      exact this
    · exact Ev.bd (new_no hc (by omega) (by omega) h) (Ev.ifn Bool.false_ne_true (Ev.val (v := 100) rfl (Ev.ifn (by decide) (Ev.bd wakes_ev (Ev.cst rfl)))))
end Go.Proofs.Ytjpnjbpbajaloaa.QP
namespace Go.Proofs.Ytjpnjbpbajaloaa.Pure
open Go.RowKit Go.Proofs.Ytjpnjbpbajaloaa.PAll Go.Proofs.YtjpnjbpbajaloaaW.PrintWords Go.Proofs.Ytjpnjbpbajaloaa.QP
theorem FeedParts : gangwaylaw23_FeedParts.Pure := by
  intro x0 h
  obtain ⟨h1, h2⟩ := h
  exact Ev.rounds (main_ _ _ _ x0.f1 (by have := h1.1.1; omega) (by have := h1.2.1.1; omega) (by have := h1.2.2.1; omega) (by have := h2.1; omega))
end Go.Proofs.Ytjpnjbpbajaloaa.Pure
