/- What the reference's feed, and what the statement shares with others, come to. -/
import Derived.Test.YtjpnjbpbajaloaaPAllx4
import Derived.Test.YtjpnjbpbajaloaaPAllx5
import Derived.Test.YtjpnjbpbajaloaaPAllx6
import Derived.Test.YtjpnjbpbajaloaaPAllx7
import Derived.Test.YtjpnjbpbajaloaaPAllx3
import Derived.Test.YtjpnjbpbajaloaaQTake
namespace Go.Proofs.Ytjpnjbpbajaloaa.Q
open Go.RowKit Go.Proofs.Ytjpnjbpbajaloaa.PAll Go.Proofs.YtjpnjbpbajaloaaW.PrintWords Go.Proofs.YtjpnjbpbajaloaaW.PrintLast Go.Proofs.YtjpnjbpbajaloaaW.PrintMore Go.Proofs.YtjpnjbpbajaloaaU
set_option linter.unusedVariables false
theorem copy_l0 (a : List Int) (hm : a.length < 140737488355328) : ∀ (d j : Nat), j + d = a.length → ∀ k, d < k → gangwayref0_CopyBytes.l0 k a (a.take j) (j : Int) = some a := by
  intro d
  induction d with
  | zero =>
    intro j hj k hk
    obtain ⟨k, rfl⟩ : ∃ m, k = m + 1 := ⟨k - 1, by omega⟩
    simp only [gangwayref0_CopyBytes.l0]
    rw [if_neg (by omega), List.take_of_length_le (by omega)]
  | succ d ih =>
    intro j hj k hk
    obtain ⟨k, rfl⟩ : ∃ m, k = m + 1 := ⟨k - 1, by omega⟩
    have e3 : wrap64 ((j : Int) + 1) = ((j + 1 : Nat) : Int) := by rw [w64 (by omega) (by omega)]; omega
    have et : a.take j ++ [a.getD j 0] = a.take (j + 1) := by
      rw [List.take_succ_eq_append_getElem (by omega), List.getD_eq_getElem?_getD, List.getElem?_eq_getElem (by omega)]
      rfl
    simp only [gangwayref0_CopyBytes.l0]
    rw [if_pos (by omega), if_pos (by omega), if_pos (by rw [List.length_take]; omega), rd_nat, e3, et]
    exact ih (j + 1) (by omega) k (by omega)
theorem copy_ev (a : List Int) (hm : a.length < 140737488355328) : Ev (fun k => gangwayref0_CopyBytes.f k a) a :=
  Ev.big (a.length + 1) fun k hk => copy_l0 a hm a.length 0 (by omega) k (by omega)
theorem bytes_l0 : ∀ (d : Nat) (a : List Int) (j : Nat), a.length < 140737488355328 → j + d = a.length → ∀ k, d < k → gangwaylaw0_Bytes.l0 k a (j : Int) = some () := by
  intro d
  induction d with
  | zero =>
    intro a j hm hj k hk
    obtain ⟨k, rfl⟩ : ∃ m, k = m + 1 := ⟨k - 1, by omega⟩
    simp only [gangwaylaw0_Bytes.l0]
    rw [if_neg (by omega), if_pos hm]
  | succ d ih =>
    intro a j hm hj k hk
    obtain ⟨k, rfl⟩ : ∃ m, k = m + 1 := ⟨k - 1, by omega⟩
    have e3 : wrap64 ((j : Int) + 1) = ((j + 1 : Nat) : Int) := by rw [w64 (by omega) (by omega)]; omega
    simp only [gangwaylaw0_Bytes.l0]
    rw [if_pos (by omega), if_pos (by omega), e3]
    exact ih _ (j + 1) (by rw [List.length_set]; exact hm) (by rw [List.length_set]; omega) k (by omega)
theorem bytes_ev (a : List Int) (hm : a.length < 140737488355328) : Ev (fun k => gangwaylaw0_Bytes.f k a) () :=
  Ev.big (a.length + 1) fun k hk => bytes_l0 a.length a 0 hm (by omega) k (by omega)
theorem copyl_l0 (a : List Int) (hm : a.length < 17592186044416) : ∀ (d j : Nat), j + d = a.length → ∀ k, d < k → gangwayref0_CopyLongs.l0 k a (a.take j) (j : Int) = some a := by
  intro d
  induction d with
  | zero =>
    intro j hj k hk
    obtain ⟨k, rfl⟩ : ∃ m, k = m + 1 := ⟨k - 1, by omega⟩
    simp only [gangwayref0_CopyLongs.l0]
    rw [if_neg (by omega), List.take_of_length_le (by omega)]
  | succ d ih =>
    intro j hj k hk
    obtain ⟨k, rfl⟩ : ∃ m, k = m + 1 := ⟨k - 1, by omega⟩
    have e3 : wrap64 ((j : Int) + 1) = ((j + 1 : Nat) : Int) := by rw [w64 (by omega) (by omega)]; omega
    have et : a.take j ++ [a.getD j 0] = a.take (j + 1) := by
      rw [List.take_succ_eq_append_getElem (by omega), List.getD_eq_getElem?_getD, List.getElem?_eq_getElem (by omega)]
      rfl
    simp only [gangwayref0_CopyLongs.l0]
    rw [if_pos (by omega), if_pos (by omega), if_pos (by rw [List.length_take]; omega), rd_nat, e3, et]
    exact ih (j + 1) (by omega) k (by omega)
theorem copyl_ev (a : List Int) (hm : a.length < 17592186044416) : Ev (fun k => gangwayref0_CopyLongs.f k a) a :=
  Ev.big (a.length + 1) fun k hk => copyl_l0 a hm a.length 0 (by omega) k (by omega)
theorem longs_l0 : ∀ (d : Nat) (a : List Int) (j : Nat), a.length < 17592186044416 → j + d = a.length → ∀ k, d < k → gangwaylaw0_Longs.l0 k a (j : Int) = some () := by
  intro d
  induction d with
  | zero =>
    intro a j hm hj k hk
    obtain ⟨k, rfl⟩ : ∃ m, k = m + 1 := ⟨k - 1, by omega⟩
    simp only [gangwaylaw0_Longs.l0]
    rw [if_neg (by omega), if_pos hm]
  | succ d ih =>
    intro a j hm hj k hk
    obtain ⟨k, rfl⟩ : ∃ m, k = m + 1 := ⟨k - 1, by omega⟩
    have e3 : wrap64 ((j : Int) + 1) = ((j + 1 : Nat) : Int) := by rw [w64 (by omega) (by omega)]; omega
    simp only [gangwaylaw0_Longs.l0]
    rw [if_pos (by omega), if_pos (by omega), e3]
    exact ih _ (j + 1) (by rw [List.length_set]; exact hm) (by rw [List.length_set]; omega) k (by omega)
theorem longs_ev (a : List Int) (hm : a.length < 17592186044416) : Ev (fun k => gangwaylaw0_Longs.f k a) () :=
  Ev.big (a.length + 1) fun k hk => longs_l0 a.length a 0 hm (by omega) k (by omega)
theorem script_ev (c r s : List Int) (hc : c.length < 17592186044416) (hr : r.length < 140737488355328) (hs : s.length < 140737488355328) : Ev (fun k => gangwayref0_CopyScript.f k c r s) (c, r, s) := by
  refine Ev.congr (fun k => by rw [gangwayref0_CopyScript.f]) ?_
  exact Ev.bd (copyl_ev c hc) (Ev.bd (copy_ev r hr) (Ev.bd (copy_ev s hs) (Ev.cst rfl)))
theorem may_l0 (c r s : List Int) (hc : c.length < 17592186044416) : ∀ (d i : Nat), i + d = c.length →
    (Gd c i → Ev (fun k => gangwayref23_May.l0 k (i : Int) c r s) true) ∧ (¬ Gd c i → Ev (fun k => gangwayref23_May.l0 k (i : Int) c r s) false) := by
  intro d
  induction d with
  | zero =>
    intro i hi
    constructor
    · intro _
      exact Ev.step (fun k => gangwayref23_May.l0.eq_2 _ _ _ _ _) (Ev.ifn (by omega) (Ev.cst rfl))
    · intro h
      exact absurd (fun j h1 h2 => by omega) h
  | succ d ih =>
    intro i hi
    have ih := ih (i + 1) (by omega)
    have hw : wrap64 ((i : Int) + 1) = ((i + 1 : Nat) : Int) := by rw [w64 (by omega) (by omega)]; omega
    have no : (∀ h : Gd c i, False) → Ev (fun k => gangwayref23_May.l0 k (i : Int) c r s) false → (Gd c i → Ev (fun k => gangwayref23_May.l0 k (i : Int) c r s) true) ∧ (¬ Gd c i → Ev (fun k => gangwayref23_May.l0 k (i : Int) c r s) false) := fun h e => ⟨fun g => (h g).elim, fun _ => e⟩
    have e0 : rd c (i : Int) = c.getD i 0 := rd_nat c i
    have tm : gangwayref0_Time.f (rd c (i : Int)) = some (decide (0 ≤ c.getD i 0 ∧ c.getD i 0 ≤ 1125899906842624)) := by
      unfold gangwayref0_Time.f
      rw [e0]
      by_cases h : c.getD i 0 ≥ 0
      · rw [if_pos h]
        congr 1
        simp only [decide_eq_decide]
        omega
      · rw [if_neg h]
        congr 1
        rw [eq_comm]
        exact decide_eq_false (by omega)
    by_cases h1 : 0 ≤ c.getD i 0 ∧ c.getD i 0 ≤ 1125899906842624
    · by_cases h3 : 0 < i
      · have e1 : wrap64 ((i : Int) - 1) = ((i - 1 : Nat) : Int) := by rw [w64 (by omega) (by omega)]; omega
        by_cases h4 : c.getD i 0 < c.getD (i - 1) 0
        · refine no (fun g => by have := (g i (Nat.le_refl _) (by omega)).2 h3; omega) (Ev.step (fun k => gangwayref23_May.l0.eq_2 _ _ _ _ _) (Ev.ifp (by omega) (Ev.ifp (by omega) (Ev.val tm (Ev.ifp (decide_eq_true h1) ?_)))))
          rw [e1]
          exact Ev.ifp (by omega) (Ev.ifp (by omega) (Ev.ifp (by omega) (Ev.ifp (by rw [e0, rd_nat]; exact h4) (Ev.cst rfl))))
        · have hg := Gd.next (c := c) (i := i) ⟨h1, fun _ => by omega⟩
          rw [hg]
          have st : ∀ v, Ev (fun k => gangwayref23_May.l0 k ((i + 1 : Nat) : Int) c r s) v → Ev (fun k => gangwayref23_May.l0 k (i : Int) c r s) v := by
            intro v e
            refine Ev.step (fun k => gangwayref23_May.l0.eq_2 _ _ _ _ _) (Ev.ifp (by omega) (Ev.ifp (by omega) (Ev.val tm (Ev.ifp (decide_eq_true h1) ?_))))
            rw [e1, hw]
            exact Ev.ifp (by omega) (Ev.ifp (by omega) (Ev.ifp (by omega) (Ev.ifn (by rw [e0, rd_nat]; exact h4) e)))
          exact ⟨fun h => st _ (ih.1 h), fun h => st _ (ih.2 h)⟩
      · have hg := Gd.next (c := c) (i := i) ⟨h1, fun h => absurd h h3⟩
        rw [hg]
        have st : ∀ v, Ev (fun k => gangwayref23_May.l0 k ((i + 1 : Nat) : Int) c r s) v → Ev (fun k => gangwayref23_May.l0 k (i : Int) c r s) v := by
          intro v e
          refine Ev.step (fun k => gangwayref23_May.l0.eq_2 _ _ _ _ _) (Ev.ifp (by omega) (Ev.ifp (by omega) (Ev.val tm (Ev.ifp (decide_eq_true h1) ?_))))
          rw [hw]
          exact Ev.ifn (by omega) e
        exact ⟨fun h => st _ (ih.1 h), fun h => st _ (ih.2 h)⟩
    · exact no (fun g => h1 (g i (Nat.le_refl _) (by omega)).1) (Ev.step (fun k => gangwayref23_May.l0.eq_2 _ _ _ _ _) (Ev.ifp (by omega) (Ev.ifp (by omega) (Ev.val tm (Ev.ifn (fun e => h1 (of_decide_eq_true e)) (Ev.cst rfl))))))
theorem may_ok {c : List Int} (r s : List Int) (hc : c.length < 17592186044416) (h : Gd c 0) : Ev (fun k => gangwayref23_May.f k c r s) true := (may_l0 c r s hc c.length 0 (by omega)).1 h
theorem may_no {c : List Int} (r s : List Int) (hc : c.length < 17592186044416) (h : ¬ Gd c 0) : Ev (fun k => gangwayref23_May.f k c r s) false := (may_l0 c r s hc c.length 0 (by omega)).2 h
theorem now_eq (c r s : List Int) (T : Nat) (R P : Int) (hc : c.length < 17592186044416) (hT : T ≤ c.length) : gangwayref23_Feed_Now.f c r s (T : Int) R P = some ((at_ c T).getD 0 0, (T : Int), R, P) := by
  unfold gangwayref23_Feed_Now.f
  rw [at_head]
  by_cases h0 : (c.length : Int) = 0
  · rw [if_pos h0]
    have : c = [] := List.length_eq_zero_iff.1 (by omega)
    subst this
    rfl
  · have hm : mn (T : Int) (wrap64 ((c.length : Int) - 1)) = ((min T (c.length - 1) : Nat) : Int) := by
      rw [w64 (by omega) (by omega)]
      unfold mn
      split <;> omega
    rw [if_neg h0, hm, if_pos (by omega), if_pos (by omega), rd_nat]
theorem tick_eq (c r s : List Int) (T : Nat) (R P : Int) (hT : T ≤ c.length) (hc : c.length < 17592186044416) : gangwayref23_Feed_Tick.f c r s (T : Int) R P = some (((min (T + 1) c.length : Nat) : Int), R, P) := by
  unfold gangwayref23_Feed_Tick.f
  have hm : mn (wrap64 ((T : Int) + 1)) (c.length : Int) = ((min (T + 1) c.length : Nat) : Int) := by
    rw [w64 (by omega) (by omega)]
    unfold mn
    split <;> omega
  rw [hm]
theorem rleft_eq (c r s : List Int) (T R : Int) (P : Nat) (hP : P ≤ s.length) (hs : s.length < 140737488355328) : gangwayref23_Feed_Left.f c r s T R (P : Int) = some (((s.drop P).length : Int), T, R, (P : Int)) := by
  unfold gangwayref23_Feed_Left.f
  rw [w64 (by omega) (by omega), List.length_drop]
  congr 2
  omega
theorem rstdin_ev (c r s : List Int) (T R : Int) (P : Nat) {n : Int} (hn : 0 ≤ n) (hP : P ≤ s.length) (hs : s.length < 140737488355328) : Ev (fun k => gangwayref23_Feed_Stdin.f k c r s T R (P : Int) n) ((s.drop P).take n.toNat, T, R, ((min (P + n.toNat) s.length : Nat) : Int)) := by
  refine Ev.congr (fun k => by rw [gangwayref23_Feed_Stdin.f]) ?_
  have hm : mn n (wrap64 ((s.length : Int) - (P : Int))) = ((min n.toNat (s.length - P) : Nat) : Int) := by
    rw [w64 (by omega) (by omega)]
    unfold mn
    split <;> omega
  rw [hm]
  have h1 : wrap64 ((P : Int) + ((min n.toNat (s.length - P) : Nat) : Int)) = ((min (P + n.toNat) s.length : Nat) : Int) := by rw [w64 (by omega) (by omega)]; omega
  rw [h1]
  have h2 : wrap64 (((min (P + n.toNat) s.length : Nat) : Int) - ((min n.toNat (s.length - P) : Nat) : Int)) = (P : Int) := by rw [w64 (by omega) (by omega)]; omega
  rw [h2]
  refine Ev.ifp (by omega) (Ev.ifp (by omega) (Ev.ifp (by omega) ?_))
  have h3 : (s.take ((min (P + n.toNat) s.length : Nat) : Int).toNat).drop ((P : Int).toNat) = (s.drop P).take n.toNat := by
    rw [Int.toNat_natCast, Int.toNat_natCast, List.drop_take]
    rcases Nat.le_total (P + n.toNat) s.length with h | h
    · rw [Nat.min_eq_left h, Nat.add_sub_cancel_left]
    · rw [Nat.min_eq_right h, List.take_of_length_le (by rw [List.length_drop]; omega), List.take_of_length_le (by rw [List.length_drop]; omega)]
  rw [h3]
  exact Ev.bd (copy_ev _ (by rw [List.length_take, List.length_drop]; omega)) (Ev.cst rfl)
theorem rrandom_l0 (c r s : List Int) (T P : Int) (R : Nat) {n : Int} (hn : 0 ≤ n ∧ n ≤ 1048576) (hR : R ≤ r.length) (hr : r.length < 140737488355328) : ∀ (d j : Nat), j + d = min n.toNat (r.length - R) →
    Ev (fun k => gangwayref23_Feed_Random.l0 k n ((r.drop R).take j ++ List.replicate (n.toNat - j) 0) (j : Int) c r s T ((R + j : Nat) : Int) P) (pad (r.drop R) n.toNat, T, ((min (R + n.toNat) r.length : Nat) : Int), P) := by
  intro d
  induction d with
  | zero =>
    intro j hj
    refine Ev.step (fun k => gangwayref23_Feed_Random.l0.eq_2 _ _ _ _ _ _ _ _ _ _) ?_
    have hx : (r.drop R).take j ++ List.replicate (n.toNat - j) 0 = pad (r.drop R) n.toNat := by
      unfold pad
      rw [List.length_drop]
      rcases Nat.le_total n.toNat (r.length - R) with h | h
      · rw [show j = n.toNat by omega, show n.toNat - n.toNat = n.toNat - (r.length - R) by omega]
      · rw [show j = r.length - R by omega, List.take_of_length_le (by rw [List.length_drop]; omega), List.take_of_length_le (by rw [List.length_drop]; omega)]
    have hy : ((R + j : Nat) : Int) = ((min (R + n.toNat) r.length : Nat) : Int) := by omega
    rw [hx, hy]
    by_cases h : (j : Int) < n
    · exact Ev.ifp h (Ev.ifn (by omega) (Ev.cst rfl))
    · exact Ev.ifn h (Ev.cst rfl)
  | succ d ih =>
    intro j hj
    have e := ih (j + 1) (by omega)
    have hw : wrap64 ((j : Int) + 1) = ((j + 1 : Nat) : Int) := by rw [w64 (by omega) (by omega)]; omega
    have hw2 : wrap64 (((R + j : Nat) : Int) + 1) = ((R + (j + 1) : Nat) : Int) := by rw [w64 (by omega) (by omega)]; omega
    refine Ev.step (fun k => gangwayref23_Feed_Random.l0.eq_2 _ _ _ _ _ _ _ _ _ _) ?_
    have hl : ((r.drop R).take j ++ List.replicate (n.toNat - j) 0).length = n.toNat := by
      rw [List.length_append, List.length_take, List.length_drop, List.length_replicate]
      omega
    refine Ev.ifp (by omega) (Ev.ifp (by omega) (Ev.ifp (by omega) (Ev.ifp (by omega) (Ev.ifp (by rw [hl]; omega) ?_))))
    rw [hw, hw2]
    have hs : ((r.drop R).take j ++ List.replicate (n.toNat - j) 0).set (j : Int).toNat (rd r ((R + j : Nat) : Int)) = (r.drop R).take (j + 1) ++ List.replicate (n.toNat - (j + 1)) 0 := by
      have ht : ((r.drop R).take j).length = j := by rw [List.length_take, List.length_drop]; omega
      rw [Int.toNat_natCast, List.set_append_right _ _ (by omega), ht, Nat.sub_self, show n.toNat - j = (n.toNat - (j + 1)) + 1 by omega, List.replicate_succ, List.set_cons_zero, List.take_succ_eq_append_getElem (by rw [List.length_drop]; omega), List.append_assoc, List.singleton_append, rd_nat]
      congr 2
      rw [List.getElem_drop, List.getD_eq_getElem?_getD, List.getElem?_eq_getElem (by omega)]
      rfl
    rw [hs]
    exact e
theorem rrandom_ev (c r s : List Int) (T P : Int) (R : Nat) {n : Int} (hn : 0 ≤ n ∧ n ≤ 1048576) (hR : R ≤ r.length) (hr : r.length < 140737488355328) : Ev (fun k => gangwayref23_Feed_Random.f k c r s T (R : Int) P n) (pad (r.drop R) n.toNat, T, ((min (R + n.toNat) r.length : Nat) : Int), P) := by
  refine Ev.congr (fun k => by rw [gangwayref23_Feed_Random.f]) (Ev.ifp hn.1 (Ev.ifp (by omega) ?_))
  have := rrandom_l0 c r s T P R hn hR hr (min n.toNat (r.length - R)) 0 (by omega)
  rw [List.take_zero, List.nil_append, Nat.sub_zero, Nat.add_zero] at this
  exact this
end Go.Proofs.Ytjpnjbpbajaloaa.Q
