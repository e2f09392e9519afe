/- What the calls of a feed come to. -/
import Derived.Test.YtjpnjbpbajaloaaPAllx2
import Derived.Test.YtjpnjbpbajaloaaPAllx1
import Derived.Test.YtjpnjbpbajaloaaEvs
namespace Go.Proofs.Ytjpnjbpbajaloaa.Q
open Go.RowKit Go.Proofs.Ytjpnjbpbajaloaa.PAll Go.Proofs.YtjpnjbpbajaloaaW.PrintWords Go.Proofs.YtjpnjbpbajaloaaW.PrintLast Go.Proofs.YtjpnjbpbajaloaaW.PrintMore Go.Proofs.YtjpnjbpbajaloaaU
set_option linter.unusedVariables false

/-- Readings may be, from number i on. -/
def Gd (c : List Int) (i : Nat) : Prop := ∀ j : Nat, i ≤ j → j < c.length → (0 ≤ c.getD j 0 ∧ c.getD j 0 ≤ 1125899906842624) ∧ (0 < j → c.getD (j - 1) 0 ≤ c.getD j 0)
theorem Gd.next {c : List Int} {i : Nat} (h : (0 ≤ c.getD i 0 ∧ c.getD i 0 ≤ 1125899906842624) ∧ (0 < i → c.getD (i - 1) 0 ≤ c.getD i 0)) : Gd c i ↔ Gd c (i + 1) := by
  constructor
  · exact fun g j hj hl => g j (by omega) hl
  · intro g j hj hl
    by_cases he : i = j
    · subst he; exact h
    · exact g j (by omega) hl
theorem clone8 {l : List Int} (h : l.length < 140737488355328) : slices_Clone_byte_byte.f l = some l := by
  unfold slices_Clone_byte_byte.f
  simp only [Option.bind_some, List.length_nil, Nat.zero_add, List.nil_append]
  exact if_pos h
theorem clone64 {l : List Int} (h : l.length < 17592186044416) : slices_Clone_int64_int64.f l = some l := by
  unfold slices_Clone_int64_int64.f
  simp only [Option.bind_some, List.length_nil, Nat.zero_add, List.nil_append]
  exact if_pos h
theorem new_l0 (c r s : List Int) (hc : c.length < 17592186044416) (hr : r.length < 140737488355328) (hs : s.length < 140737488355328) : ∀ (d i : Nat), i + d = c.length →
    (Gd c i → Ev (fun k => feed_New.l0 k c (c.length : Int) (i : Int) c r s) (true, c, r, s, 0)) ∧ (¬ Gd c i → Ev (fun k => feed_New.l0 k c (c.length : Int) (i : Int) c r s) (false, [], [], [], 100)) := by
  intro d
  induction d with
  | zero =>
    intro i hi
    constructor
    · intro _
      refine Ev.step (fun k => feed_New.l0.eq_2 _ _ _ _ _ _ _) ?_
      refine Ev.ifn (by omega) ?_
      exact Ev.val (clone64 hc) (Ev.val (clone8 hr) (Ev.val (clone8 hs) (Ev.cst rfl)))
    · intro h
      exact absurd (fun j h1 h2 => by omega) h
  | succ d ih =>
    intro i hi
    have ih := ih (i + 1) (by omega)
    have hw : wrap64 ((i : Int) + 1) = ((i + 1 : Nat) : Int) := by rw [w64 (by omega) (by omega)]; omega
    have no : (∀ h : Gd c i, False) → Ev (fun k => feed_New.l0 k c (c.length : Int) (i : Int) c r s) (false, [], [], [], 100) → (Gd c i → Ev (fun k => feed_New.l0 k c (c.length : Int) (i : Int) c r s) (true, c, r, s, 0)) ∧ (¬ Gd c i → Ev (fun k => feed_New.l0 k c (c.length : Int) (i : Int) c r s) (false, [], [], [], 100)) := fun h e => ⟨fun g => (h g).elim, fun _ => e⟩
    have e0 : rd c (i : Int) = c.getD i 0 := rd_nat c i
    by_cases h1 : c.getD i 0 < 0
    · refine no (fun g => by have := (g i (Nat.le_refl _) (by omega)).1; omega) (Ev.step (fun k => feed_New.l0.eq_2 _ _ _ _ _ _ _) (Ev.ifp (by omega) (Ev.ifp (by omega) (Ev.ifp (by omega) ?_))))
      exact Ev.ifp (by rw [e0]; exact h1) (Ev.cst rfl)
    by_cases h2 : c.getD i 0 > 1125899906842624
    · refine no (fun g => by have := (g i (Nat.le_refl _) (by omega)).1; omega) (Ev.step (fun k => feed_New.l0.eq_2 _ _ _ _ _ _ _) (Ev.ifp (by omega) (Ev.ifp (by omega) (Ev.ifp (by omega) ?_))))
      exact Ev.ifn (by rw [e0]; exact h1) (Ev.ifp (by rw [e0]; exact h2) (Ev.cst rfl))
    by_cases h3 : 0 < i
    · have e1 : wrap64 ((i : Int) - 1) = ((i - 1 : Nat) : Int) := by rw [w64 (by omega) (by omega)]; omega
      by_cases h4 : c.getD (i - 1) 0 > c.getD i 0
      · refine no (fun g => by have := (g i (Nat.le_refl _) (by omega)).2 h3; omega) (Ev.step (fun k => feed_New.l0.eq_2 _ _ _ _ _ _ _) (Ev.ifp (by omega) (Ev.ifp (by omega) (Ev.ifp (by omega) ?_))))
        rw [e1]
        exact Ev.ifn (by rw [e0]; exact h1) (Ev.ifn (by rw [e0]; exact h2) (Ev.ifp (by omega) (Ev.ifp (by omega) (Ev.ifp (by omega) (Ev.ifp (by rw [e0, rd_nat]; exact h4) (Ev.cst rfl))))))
      · have hg := Gd.next (c := c) (i := i) ⟨by omega, fun _ => by omega⟩
        rw [hg]
        have st : ∀ v, Ev (fun k => feed_New.l0 k c (c.length : Int) ((i + 1 : Nat) : Int) c r s) v → Ev (fun k => feed_New.l0 k c (c.length : Int) (i : Int) c r s) v := by
          intro v e
          refine Ev.step (fun k => feed_New.l0.eq_2 _ _ _ _ _ _ _) (Ev.ifp (by omega) (Ev.ifp (by omega) (Ev.ifp (by omega) ?_)))
          rw [e1, hw]
          exact Ev.ifn (by rw [e0]; exact h1) (Ev.ifn (by rw [e0]; exact h2) (Ev.ifp (by omega) (Ev.ifp (by omega) (Ev.ifp (by omega) (Ev.ifn (by rw [e0, rd_nat]; exact h4) e)))))
        exact ⟨fun h => st _ (ih.1 h), fun h => st _ (ih.2 h)⟩
    · have hg := Gd.next (c := c) (i := i) ⟨by omega, fun h => absurd h h3⟩
      rw [hg]
      have st : ∀ v, Ev (fun k => feed_New.l0 k c (c.length : Int) ((i + 1 : Nat) : Int) c r s) v → Ev (fun k => feed_New.l0 k c (c.length : Int) (i : Int) c r s) v := by
        intro v e
        refine Ev.step (fun k => feed_New.l0.eq_2 _ _ _ _ _ _ _) (Ev.ifp (by omega) (Ev.ifp (by omega) (Ev.ifp (by omega) ?_)))
        rw [hw]
        exact Ev.ifn (by rw [e0]; exact h1) (Ev.ifn (by rw [e0]; exact h2) (Ev.ifn (by omega) e))
      exact ⟨fun h => st _ (ih.1 h), fun h => st _ (ih.2 h)⟩
theorem new_ok {c r s : List Int} (hc : c.length < 17592186044416) (hr : r.length < 140737488355328) (hs : s.length < 140737488355328) (h : Gd c 0) : Ev (fun k => feed_New.f k c r s) (true, c, r, s, 0) :=
  (new_l0 c r s hc hr hs c.length 0 (by omega)).1 h
theorem new_no {c r s : List Int} (hc : c.length < 17592186044416) (hr : r.length < 140737488355328) (hs : s.length < 140737488355328) (h : ¬ Gd c 0) : Ev (fun k => feed_New.f k c r s) (false, [], [], [], 100) :=
  (new_l0 c r s hc hr hs c.length 0 (by omega)).2 h
/-- The clock behind a reading: the last one stays. -/
def tick (q : List Int) : List Int := if 1 < q.length then q.drop 1 else q
theorem clock_eq (q r s : List Int) : feed_Feed_Clock.f q r s = some (q.getD 0 0, tick q, r, s) := by
  unfold feed_Feed_Clock.f tick
  cases q with
  | nil => rfl
  | cons a q =>
    rw [if_neg (by simp only [List.length_cons]; omega), if_pos (by simp only [List.length_cons]; omega)]
    by_cases h : 1 < (a :: q).length
    · rw [if_pos (by omega), if_pos (by omega), if_pos h]
      rfl
    · rw [if_neg (by omega), if_neg h]
      rfl
/-- What is left of the readings behind i of them. -/
def at_ (c : List Int) (i : Nat) : List Int := c.drop (min i (c.length - 1))
theorem at_zero (c : List Int) : at_ c 0 = c := by simp [at_]
theorem at_tick (c : List Int) (i : Nat) : tick (at_ c i) = at_ c (i + 1) := by
  unfold tick at_
  rw [List.length_drop]
  by_cases h : i + 1 < c.length
  · rw [if_pos (by omega), List.drop_drop]
    congr 1
    omega
  · rw [if_neg (by omega)]
    congr 1
    omega
theorem at_head (c : List Int) (i : Nat) : (at_ c i).getD 0 0 = c.getD (min i (c.length - 1)) 0 := by
  unfold at_
  rw [List.getD_eq_getElem?_getD, List.getElem?_drop, Nat.add_zero, List.getD_eq_getElem?_getD]
theorem wakes_ev : Ev (fun k => gangwaylaw23_wakes.f k) true := by
  refine Ev.congr (fun k => by rw [gangwaylaw23_wakes.f]) ?_
  refine Ev.bd (new_ok (c := [7]) (r := []) (s := []) (by decide) (by decide) (by decide) ?_) (Ev.ifp rfl (Ev.val (v := 0) rfl (Ev.ifp rfl (Ev.val (clock_eq _ _ _) (Ev.cst rfl)))))
  intro j _ h
  have : j = 0 := by simp at h; omega
  subst this
  decide
theorem heavy_ev (a b c : List Int) (L : List S45) (hL : L.length < 10000000000000) : ∃ r, Ev (fun k => gangwaylaw23_heavy.f k a b c L) r ∧ (r = false → ∀ i : Nat, i < L.length → i < 40 → ¬ (2000 < (rd_T45 L (i : Int)).f1 ∧ (rd_T45 L (i : Int)).f1 ≤ 1048576)) := by
  have key : ∀ (d i : Nat), i + d = 40 → ∀ n : Int, ∃ r, Ev (fun k => gangwaylaw23_heavy.l0 k n (i : Int) a b c L) r ∧ (r = false → ∀ j : Nat, i ≤ j → j < L.length → j < 40 → ¬ (2000 < (rd_T45 L (j : Int)).f1 ∧ (rd_T45 L (j : Int)).f1 ≤ 1048576)) := by
    intro d
    induction d with
    | zero =>
      intro i hi n
      refine ⟨decide (n > 5000), ?_, fun _ j h1 _ h2 => by omega⟩
      refine Ev.step (fun k => gangwaylaw23_heavy.l0.eq_2 _ _ _ _ _ _ _) ?_
      by_cases hlt : (i : Int) < (L.length : Int)
      · refine Ev.ifp hlt ?_
        rw [decide_eq_false (show ¬ (i : Int) < 40 by omega)]
        exact Ev.step (fun k => gangwaylaw23_heavy.j1.eq_2 _ _ _ _ _ _ _ _) (Ev.ifn Bool.false_ne_true (Ev.cst rfl))
      · exact Ev.ifn hlt (Ev.step (fun k => gangwaylaw23_heavy.j1.eq_2 _ _ _ _ _ _ _ _) (Ev.ifn Bool.false_ne_true (Ev.cst rfl)))
    | succ d ih =>
      intro i hi n
      by_cases hlt : (i : Int) < (L.length : Int)
      · obtain ⟨r, e, hr⟩ := ih (i + 1) (by omega) n
        have hw : wrap64 ((i : Int) + 1) = ((i + 1 : Nat) : Int) := by rw [w64 (by omega) (by omega)]; omega
        by_cases hq : 2000 < (rd_T45 L (i : Int)).f1 ∧ (rd_T45 L (i : Int)).f1 ≤ 1048576
        · refine ⟨true, ?_, by simp⟩
          refine Ev.step (fun k => gangwaylaw23_heavy.l0.eq_2 _ _ _ _ _ _ _) (Ev.ifp hlt ?_)
          rw [decide_eq_true (show (i : Int) < 40 by omega)]
          exact Ev.step (fun k => gangwaylaw23_heavy.j1.eq_2 _ _ _ _ _ _ _ _) (Ev.ifp rfl (Ev.ifp (by omega) (Ev.ifp hlt (Ev.ifp hq.1 (Ev.ifp hq.2 (Ev.cst rfl))))))
        · refine ⟨r, ?_, fun h j h1 h2 h3 => ?_⟩
          · refine Ev.step (fun k => gangwaylaw23_heavy.l0.eq_2 _ _ _ _ _ _ _) (Ev.ifp hlt ?_)
            rw [decide_eq_true (show (i : Int) < 40 by omega)]
            refine Ev.step (fun k => gangwaylaw23_heavy.j1.eq_2 _ _ _ _ _ _ _ _) (Ev.ifp rfl (Ev.ifp (by omega) (Ev.ifp hlt ?_)))
            rw [hw]
            by_cases h1 : (rd_T45 L (i : Int)).f1 > 2000
            · exact Ev.ifp h1 (Ev.ifn (fun h2 => hq ⟨h1, h2⟩) e)
            · exact Ev.ifn h1 e
          · by_cases he : i = j
            · subst he; exact hq
            · exact hr h j (by omega) h2 h3
      · refine ⟨decide (n > 5000), ?_, fun _ j h1 h2 _ => by omega⟩
        exact Ev.step (fun k => gangwaylaw23_heavy.l0.eq_2 _ _ _ _ _ _ _) (Ev.ifn hlt (Ev.step (fun k => gangwaylaw23_heavy.j1.eq_2 _ _ _ _ _ _ _ _) (Ev.ifn Bool.false_ne_true (Ev.cst rfl))))
  obtain ⟨r, e, hr⟩ := key 40 0 (by omega) (wrap64 ((wrap64 ((a.length : Int) + (b.length : Int))) + (c.length : Int)))
  exact ⟨r, e, fun h j h1 h2 => hr h j (by omega) h1 h2⟩
end Go.Proofs.Ytjpnjbpbajaloaa.Q
