/- Whatever is taken from any script, each call tells what the reference says: for every script and all acts. -/
import Derived.Test.YtjpnjbpbajaloaaPAllx8
import Derived.Test.YtjpnjbpbajaloaaQFeedRef
namespace Go.Proofs.Ytjpnjbpbajaloaa.QX
open Go.RowKit Go.Proofs.Ytjpnjbpbajaloaa.PAll Go.Proofs.YtjpnjbpbajaloaaW.PrintWords Go.Proofs.YtjpnjbpbajaloaaW.PrintLast Go.Proofs.YtjpnjbpbajaloaaW.PrintMore Go.Proofs.YtjpnjbpbajaloaaU Go.Proofs.Ytjpnjbpbajaloaa.Q
set_option linter.unusedVariables false
set_option linter.unusedSectionVars false

section
variable (c r s : List Int) (L : List S45)
/-- All that stands behind act i comes to true. -/
def Go (i : Nat) : Prop := ∀ T R P : Nat, T ≤ c.length → R ≤ r.length → P ≤ s.length → Ev (fun k => gangwaylaw23_FeedExact.l0 k (i : Int) c r s L (at_ c T) (r.drop R) (s.drop P) c r s (T : Int) (R : Int) (P : Int)) true
variable {c r s L}
theorem at_min (T : Nat) : at_ c (min T c.length) = at_ c T := by
  unfold at_
  congr 1
  omega
theorem drop_min (l : List Int) (q : Nat) : l.drop (min q l.length) = l.drop q := by
  rcases Nat.le_total q l.length with h | h
  · rw [Nat.min_eq_left h]
  · rw [Nat.min_eq_right h, List.drop_of_length_le (Nat.le_refl _), List.drop_of_length_le h]
variable {i : Nat} (hi : i < 1000000000) (hc : c.length < 17592186044416) (hr : r.length < 140737488355328) (hs : s.length < 140737488355328) (g : Go c r s L (i + 1))
include hi hc hr hs g
theorem left_step (T R P : Nat) (hT : T ≤ c.length) (hR : R ≤ r.length) (hP : P ≤ s.length) : Ev (fun k => gangwaylaw23_FeedExact.j8 k (i : Int) c r s L (at_ c T) (r.drop R) (s.drop P) c r s (T : Int) (R : Int) (P : Int)) true := by
  refine Ev.step (fun k => gangwaylaw23_FeedExact.j8.eq_2 _ _ _ _ _ _ _ _ _ _ _ _ _ _ _) ?_
  refine Ev.val (left_eq _ _ _) (Ev.val (rleft_eq c r s T R P hP hs) (Ev.ifp rfl ?_))
  rw [show wrap64 ((i : Int) + 1) = ((i + 1 : Nat) : Int) from by rw [w64 (by omega) (by omega)]; omega]
  exact g T R P hT hR hP
theorem random_step (T R P : Nat) (hT : T ≤ c.length) (hR : R ≤ r.length) (hP : P ≤ s.length) (n : Int) (x : Int) (hx : x = if 0 ≤ n ∧ n ≤ 1048576 then 0 else 100) : Ev (fun k => gangwaylaw23_FeedExact.j5 k (i : Int) n x true c r s L (at_ c T) (r.drop R) (s.drop P) c r s (T : Int) (R : Int) (P : Int)) true := by
  refine Ev.step (fun k => gangwaylaw23_FeedExact.j5.eq_2 _ _ _ _ _ _ _ _ _ _ _ _ _ _ _ _ _ _) (Ev.ifp rfl ?_)
  by_cases hn : 0 ≤ n ∧ n ≤ 1048576
  · rw [if_pos hn] at hx
    subst hx
    refine Ev.ifp rfl (Ev.bd (rrandom_ev c r s T P R hn hR hr) ?_)
    refine Ev.step (fun k => gangwaylaw23_FeedExact.j6.eq_2 _ _ _ _ _ _ _ _ _ _ _ _ _ _ _ _ _ _) ?_
    refine Ev.val (random_ok _ _ _ hn) (Ev.val (v := 0) rfl (Ev.ifp rfl ?_))
    have hl : (pad (r.drop R) n.toNat).length < 140737488355328 := by rw [pad_length]; omega
    refine Ev.bd (eqb_self _ hl) (Ev.ifp rfl (Ev.bd (bytes_ev _ hl) ?_))
    have e := left_step hi hc hr hs g T (min (R + n.toNat) r.length) P hT (by omega) hP
    rw [drop_min, ← List.drop_drop] at e
    exact e
  · rw [if_neg hn] at hx
    subst hx
    refine Ev.ifn (by decide) ?_
    refine Ev.step (fun k => gangwaylaw23_FeedExact.j6.eq_2 _ _ _ _ _ _ _ _ _ _ _ _ _ _ _ _ _ _) ?_
    refine Ev.val (random_no _ _ _ hn) (Ev.val (v := 100) rfl (Ev.ifp rfl ?_))
    refine Ev.bd (eqb_self [] (by decide)) (Ev.ifp rfl (Ev.bd (bytes_ev [] (by decide)) ?_))
    exact left_step hi hc hr hs g T R P hT hR hP
theorem stdin_step (T R P : Nat) (hT : T ≤ c.length) (hR : R ≤ r.length) (hP : P ≤ s.length) (n : Int) (x : Int) (hx : x = if 0 ≤ n ∧ n ≤ 1048576 then 0 else 100) : Ev (fun k => gangwaylaw23_FeedExact.j5 k (i : Int) n x false c r s L (at_ c T) (r.drop R) (s.drop P) c r s (T : Int) (R : Int) (P : Int)) true := by
  refine Ev.step (fun k => gangwaylaw23_FeedExact.j5.eq_2 _ _ _ _ _ _ _ _ _ _ _ _ _ _ _ _ _ _) (Ev.ifn Bool.false_ne_true ?_)
  by_cases hn : 0 ≤ n ∧ n ≤ 1048576
  · rw [if_pos hn] at hx
    subst hx
    refine Ev.ifp rfl (Ev.bd (rstdin_ev c r s T R P hn.1 hP hs) ?_)
    refine Ev.step (fun k => gangwaylaw23_FeedExact.j7.eq_2 _ _ _ _ _ _ _ _ _ _ _ _ _ _ _ _ _ _) ?_
    refine Ev.val (stdin_ok _ _ _ hn) (Ev.val (v := 0) rfl (Ev.ifp rfl ?_))
    have hl : ((s.drop P).take n.toNat).length < 140737488355328 := by rw [List.length_take, List.length_drop]; omega
    refine Ev.bd (eqb_self _ hl) (Ev.ifp rfl (Ev.bd (bytes_ev _ hl) ?_))
    have e := left_step hi hc hr hs g T R (min (P + n.toNat) s.length) hT hR (by omega)
    rw [drop_min, ← List.drop_drop] at e
    exact e
  · rw [if_neg hn] at hx
    subst hx
    refine Ev.ifn (by decide) ?_
    refine Ev.step (fun k => gangwaylaw23_FeedExact.j7.eq_2 _ _ _ _ _ _ _ _ _ _ _ _ _ _ _ _ _ _) ?_
    refine Ev.val (stdin_no _ _ _ hn) (Ev.val (v := 100) rfl (Ev.ifp rfl ?_))
    refine Ev.bd (eqb_self [] (by decide)) (Ev.ifp rfl (Ev.bd (bytes_ev [] (by decide)) ?_))
    exact left_step hi hc hr hs g T R P hT hR hP
theorem act_step (T R P : Nat) (hT : T ≤ c.length) (hR : R ≤ r.length) (hP : P ≤ s.length) (hL : (i : Int) < (L.length : Int)) (n : Int) (x : Int) (hx : x = if 0 ≤ n ∧ n ≤ 1048576 then 0 else 100) : Ev (fun k => gangwaylaw23_FeedExact.j3 k (i : Int) n x c r s L (at_ c T) (r.drop R) (s.drop P) c r s (T : Int) (R : Int) (P : Int)) true := by
  refine Ev.step (fun k => gangwaylaw23_FeedExact.j3.eq_2 _ _ _ _ _ _ _ _ _ _ _ _ _ _ _ _ _) (Ev.ifp (by omega) (Ev.ifp hL ?_))
  refine Ev.val (within_eq _ 6 (by omega) (by omega)) ?_
  have ht : 0 ≤ (rd_T45 L (i : Int)).f0 % 18446744073709551616 % 6 ∧ (rd_T45 L (i : Int)).f0 % 18446744073709551616 % 6 < 6 := by omega
  generalize (rd_T45 L (i : Int)).f0 % 18446744073709551616 % 6 = t at *
  have clock : Ev (fun k => gangwaylaw23_FeedExact.j4 k (i : Int) n x t true c r s L (at_ c T) (r.drop R) (s.drop P) c r s (T : Int) (R : Int) (P : Int)) true := by
    refine Ev.step (fun k => gangwaylaw23_FeedExact.j4.eq_2 _ _ _ _ _ _ _ _ _ _ _ _ _ _ _ _ _ _ _) (Ev.ifp rfl ?_)
    refine Ev.val (clock_eq _ _ _) (Ev.val (now_eq c r s T R P hc hT) (Ev.ifp rfl (Ev.val (tick_eq c r s T R P hT hc) ?_)))
    have e := left_step hi hc hr hs g (min (T + 1) c.length) R P (by omega) hR hP
    rw [at_min, ← at_tick] at e
    exact e
  have rest : t ≠ 0 → t ≠ 1 → Ev (fun k => gangwaylaw23_FeedExact.j4 k (i : Int) n x t false c r s L (at_ c T) (r.drop R) (s.drop P) c r s (T : Int) (R : Int) (P : Int)) true := by
    intro h0 h1
    refine Ev.step (fun k => gangwaylaw23_FeedExact.j4.eq_2 _ _ _ _ _ _ _ _ _ _ _ _ _ _ _ _ _ _ _) (Ev.ifn Bool.false_ne_true ?_)
    by_cases h2 : t = 2
    · refine Ev.ifp h2 ?_
      rw [show (t == 2) = true from by simp [h2]]
      exact random_step hi hc hr hs g T R P hT hR hP n x hx
    · refine Ev.ifn h2 ?_
      by_cases h3 : t = 3
      · rw [show (t == 3) = true from by simp [h3]]
        exact random_step hi hc hr hs g T R P hT hR hP n x hx
      · rw [show (t == 3) = false from by simp [h3]]
        exact stdin_step hi hc hr hs g T R P hT hR hP n x hx
  by_cases h0 : t = 0
  · refine Ev.ifp h0 ?_
    rw [show (t == 0) = true from by simp [h0]]
    exact clock
  · refine Ev.ifn h0 ?_
    by_cases h1 : t = 1
    · rw [show (t == 1) = true from by simp [h1]]
      exact clock
    · rw [show (t == 1) = false from by simp [h1]]
      exact rest h0 h1
end
theorem fin (i : Int) (c r s : List Int) (L : List S45) (a b d c' r' s' : List Int) (T R P : Int) : Ev (fun k => gangwaylaw23_FeedExact.j1 k i false c r s L a b d c' r' s' T R P) true := by
  refine Ev.step (fun k => gangwaylaw23_FeedExact.j1.eq_2 _ _ _ _ _ _ _ _ _ _ _ _ _ _ _ _) (Ev.ifn Bool.false_ne_true ?_)
  exact Ev.bd wakes_ev (Ev.cst rfl)
theorem all_ (c r s : List Int) (L : List S45) (hc : c.length < 17592186044416) (hr : r.length < 140737488355328) (hs : s.length < 140737488355328) : ∀ (d i : Nat), i + d = 40 → Go c r s L i := by
  intro d
  induction d with
  | zero =>
    intro i hi T R P hT hR hP
    refine Ev.step (fun k => gangwaylaw23_FeedExact.l0.eq_2 _ _ _ _ _ _ _ _ _ _ _ _ _ _ _) ?_
    by_cases hlt : (i : Int) < (L.length : Int)
    · refine Ev.ifp hlt ?_
      rw [decide_eq_false (by omega)]
      exact fin _ _ _ _ _ _ _ _ _ _ _ _ _ _
    · exact Ev.ifn hlt (fin _ _ _ _ _ _ _ _ _ _ _ _ _ _)
  | succ d ih =>
    intro i hi T R P hT hR hP
    refine Ev.step (fun k => gangwaylaw23_FeedExact.l0.eq_2 _ _ _ _ _ _ _ _ _ _ _ _ _ _ _) ?_
    by_cases hlt : (i : Int) < (L.length : Int)
    · refine Ev.ifp hlt ?_
      rw [decide_eq_true (show (i : Int) < 40 by omega)]
      refine Ev.step (fun k => gangwaylaw23_FeedExact.j1.eq_2 _ _ _ _ _ _ _ _ _ _ _ _ _ _ _ _) (Ev.ifp rfl (Ev.ifp (by omega) (Ev.ifp hlt ?_)))
      generalize (rd_T45 L (i : Int)).f1 = n
      have go := act_step (by omega) hc hr hs (ih (i + 1) (by omega)) T R P hT hR hP hlt n
      by_cases h0 : n < 0
      · refine Ev.ifp h0 ?_
        refine Ev.step (fun k => gangwaylaw23_FeedExact.j2.eq_2 _ _ _ _ _ _ _ _ _ _ _ _ _ _ _ _ _ _) (Ev.ifp rfl ?_)
        exact go 100 (by rw [if_neg (by omega)])
      · refine Ev.ifn h0 ?_
        refine Ev.step (fun k => gangwaylaw23_FeedExact.j2.eq_2 _ _ _ _ _ _ _ _ _ _ _ _ _ _ _ _ _ _) ?_
        by_cases h1 : n > 1048576
        · exact Ev.ifp (decide_eq_true h1) (go 100 (by rw [if_neg (by omega)]))
        · exact Ev.ifn (fun e => h1 (of_decide_eq_true e)) (go 0 (by rw [if_pos (by omega)]))
    · exact Ev.ifn hlt (fin _ _ _ _ _ _ _ _ _ _ _ _ _ _)
theorem main_ (c r s : List Int) (L : List S45) (hc : c.length < 17592186044416) (hr : r.length < 140737488355328) (hs : s.length < 140737488355328) (hL : L.length < 10000000000000) : Ev (fun k => gangwaylaw23_FeedExact.f k c r s L) true := by
  obtain ⟨b, e, _⟩ := heavy_ev c r s L hL
  refine Ev.congr (fun k => by rw [gangwaylaw23_FeedExact.f]) (Ev.bd e ?_)
  cases b with
  | true => exact Ev.ifp rfl (Ev.cst rfl)
  | false =>
    refine Ev.ifn Bool.false_ne_true (Ev.bd (script_ev c r s hc hr hs) ?_)
    by_cases h : Gd c 0
    · refine Ev.bd (new_ok hc hr hs h) (Ev.ifp rfl (Ev.bd (longs_ev c hc) (Ev.bd (bytes_ev r hr) (Ev.bd (bytes_ev s hs) (Ev.bd (may_ok r s hc h) (Ev.ifp rfl (Ev.val (v := 0) rfl (Ev.ifp rfl ?_))))))))
      have := all_ c r s L hc hr hs 40 0 (by omega) 0 0 0 (by omega) (by omega) (by omega)
      rw [at_zero] at this
      exact this
    · exact Ev.bd (new_no hc hr hs h) (Ev.ifn Bool.false_ne_true (Ev.bd (longs_ev c hc) (Ev.bd (bytes_ev r hr) (Ev.bd (bytes_ev s hs) (Ev.bd (may_no r s hc h) (Ev.ifn Bool.false_ne_true (Ev.val (v := 100) rfl (Ev.ifp rfl (Ev.bd wakes_ev (Ev.cst rfl))))))))))
end Go.Proofs.Ytjpnjbpbajaloaa.QX
namespace Go.Proofs.Ytjpnjbpbajaloaa.Pure
open Go.RowKit Go.Proofs.Ytjpnjbpbajaloaa.PAll Go.Proofs.YtjpnjbpbajaloaaW.PrintWords Go.Proofs.Ytjpnjbpbajaloaa.QX
theorem FeedExact : gangwaylaw23_FeedExact.Pure := by
  intro x0 h
  obtain ⟨h1, h2⟩ := h
  exact Ev.rounds (main_ _ _ _ x0.f1 (by have := h1.1.1; omega) (by have := h1.2.1.1; omega) (by have := h1.2.2.1; omega) (by have := h2.1; omega))
end Go.Proofs.Ytjpnjbpbajaloaa.Pure
