/- Of any memory the pieces, what they gather, how bytes are scattered over them, and how many bytes they have: for every list of asks. -/
import Derived.Test.YtdoaininjfbemaaPAllx10
import Derived.Test.YtdoaininjfbemaaPAllx5
import Derived.Test.YtdoaininjfbemaaPAllx7
import Derived.Test.YtdoaininjfbemaaPAllx8
import Derived.Test.YtdoaininjfbemaaPAllx2
import Derived.Test.YtdoaininjfbemaaPAllx9
import Derived.Test.YtdoaininjfbemaaQIov
namespace Go.Proofs.Ytdoaininjfbemaa.QE
open Go.RowKit Go.Proofs.Ytdoaininjfbemaa.PAll Go.Proofs.YtdoaininjfbemaaW.PrintWords Go.Proofs.YtdoaininjfbemaaW.PrintLast Go.Proofs.YtdoaininjfbemaaW.PrintMore Go.Proofs.YtdoaininjfbemaaU Go.Proofs.Ytdoaininjfbemaa.Q
set_option linter.unusedVariables false
set_option linter.unusedSectionVars false

section
variable (x0 : List S26) (i : Nat) (hi : i < 1000000000000000) (m : List Int) (a n : Int) (P : List S50) (B : List Int)
variable (hm : m.length ≤ 5000) (hmb : Byt m) (hB : B.length ≤ 5000) (hP : P.length ≤ 500) (hn : -9223372036854775808 ≤ n ∧ n ≤ 9223372036854775807)
variable (hf : ∀ x ∈ P, -9223372036854775808 ≤ x.f1 ∧ x.f1 ≤ 9223372036854775807)
variable (g : Ev (fun k => gangwaylaw19_IovExact.l0 k x0 ((i + 1 : Nat) : Int)) true)
include hi hP g
theorem next_ : Ev (fun k => gangwaylaw19_IovExact.l0 k x0 (wrap64 ((i : Int) + 1))) true := by
  rw [w64 (by omega) (by omega), show (i : Int) + 1 = ((i + 1 : Nat) : Int) by omega]
  exact g
theorem end_bad (t : Int) (h : tot 0 P = none) : Ev (fun k => gangwaylaw19_IovExact.j6 k x0 (i : Int) true t m a n P B) true := by
  have e := total_ev P (by omega)
  rw [h] at e
  refine Ev.step (fun k => gangwaylaw19_IovExact.j6.eq_2 _ _ _ _ _ _ _ _ _ _) (Ev.bd e (Ev.val (v := 100) rfl (Ev.ifn (by decide) (Ev.ifp rfl (Ev.ifp rfl ?_)))))
  exact next_ x0 i hi P hP g
theorem end_ok (t : Int) (h : tot 0 P = some t) : Ev (fun k => gangwaylaw19_IovExact.j6 k x0 (i : Int) false t m a n P B) true := by
  have e := total_ev P (by omega)
  rw [h] at e
  refine Ev.step (fun k => gangwaylaw19_IovExact.j6.eq_2 _ _ _ _ _ _ _ _ _ _) (Ev.bd e (Ev.val (v := 0) rfl (Ev.ifn (by decide) (Ev.ifn Bool.false_ne_true (Ev.ifp rfl (Ev.ifp rfl ?_))))))
  exact next_ x0 i hi P hP g
theorem below_l1 (h : tot 0 P = none) (t : Int) : ∀ (d j : Nat), j + d = P.length → Ev (fun k => gangwaylaw19_IovExact.l1 k x0 (i : Int) true t (j : Int) m a n P B) true := by
  intro d
  induction d with
  | zero =>
    intro j hj
    exact Ev.step (fun k => gangwaylaw19_IovExact.l1.eq_2 _ _ _ _ _ _ _ _ _ _ _) (Ev.ifn (by omega) (Ev.ifp rfl (end_bad x0 i hi m a n P B hP g t h)))
  | succ d ih =>
    intro j hj
    refine Ev.step (fun k => gangwaylaw19_IovExact.l1.eq_2 _ _ _ _ _ _ _ _ _ _ _) (Ev.ifp (by omega) (Ev.ifp rfl ?_))
    rw [w64 (x := (j : Int) + 1) (by omega) (by omega), show (j : Int) + 1 = ((j + 1 : Nat) : Int) by omega]
    exact ih (j + 1) (by omega)
/-- Beyond what may be: at the next piece, or at the end, it is told. -/
theorem over_l1 (h : tot 0 P = none) (t : Int) (ht : t > 1099511627776) : ∀ (d j : Nat), j + d = P.length → Ev (fun k => gangwaylaw19_IovExact.l1 k x0 (i : Int) false t (j : Int) m a n P B) true := by
  intro d j hj
  refine Ev.step (fun k => gangwaylaw19_IovExact.l1.eq_2 _ _ _ _ _ _ _ _ _ _ _) ?_
  by_cases hd : (j : Int) < (P.length : Int)
  · have e := below_l1 x0 i hi m a n P B hP g h t (d - 1) (j + 1) (by omega)
    refine Ev.ifp hd (Ev.ifn Bool.false_ne_true (Ev.ifp (by omega) ?_))
    rw [w64 (x := (j : Int) + 1) (by omega) (by omega), show (j : Int) + 1 = ((j + 1 : Nat) : Int) by omega, decide_eq_true ht]
    by_cases h1 : (rd_T50 P (j : Int)).f1 < 0
    · exact Ev.ifp h1 e
    · refine Ev.ifn h1 ?_
      by_cases h2 : (rd_T50 P (j : Int)).f1 > 1099511627776
      · exact Ev.ifp h2 e
      · exact Ev.ifn h2 (Ev.ifp ht e)
  · refine Ev.ifn hd (Ev.ifn Bool.false_ne_true ?_)
    rw [decide_eq_true ht]
    exact end_bad x0 i hi m a n P B hP g t h
theorem sum_l1 : ∀ (d j : Nat), j + d = P.length → ∀ t : Int, 0 ≤ t → t ≤ 1099511627776 → tot t (P.drop j) = tot 0 P → Ev (fun k => gangwaylaw19_IovExact.l1 k x0 (i : Int) false t (j : Int) m a n P B) true := by
  intro d
  induction d with
  | zero =>
    intro j hj t h0 h1 ht
    rw [List.drop_of_length_le (by omega), tot] at ht
    refine Ev.step (fun k => gangwaylaw19_IovExact.l1.eq_2 _ _ _ _ _ _ _ _ _ _ _) (Ev.ifn (by omega) (Ev.ifn Bool.false_ne_true ?_))
    rw [decide_eq_false (by omega)]
    exact end_ok x0 i hi m a n P B hP g t ht.symm
  | succ d ih =>
    intro j hj t h0 h1 ht
    have hjl : j < P.length := by omega
    rw [List.drop_eq_getElem_cons hjl, tot] at ht
    refine Ev.step (fun k => gangwaylaw19_IovExact.l1.eq_2 _ _ _ _ _ _ _ _ _ _ _) (Ev.ifp (by omega) (Ev.ifn Bool.false_ne_true (Ev.ifp (by omega) ?_)))
    rw [w64 (x := (j : Int) + 1) (by omega) (by omega), show (j : Int) + 1 = ((j + 1 : Nat) : Int) by omega, rdp P j hjl]
    by_cases h2 : P[j].f1 < 0
    · rw [if_pos h2] at ht
      exact Ev.ifp h2 (below_l1 x0 i hi m a n P B hP g ht.symm t d (j + 1) (by omega))
    · rw [if_neg h2] at ht
      refine Ev.ifn h2 ?_
      by_cases h3 : P[j].f1 > 1099511627776
      · rw [if_pos (by omega)] at ht
        exact Ev.ifp h3 (below_l1 x0 i hi m a n P B hP g ht.symm t d (j + 1) (by omega))
      · refine Ev.ifn h3 (Ev.ifn (by omega) ?_)
        rw [decide_eq_false (by omega), w64 (x := t + P[j].f1) (by omega) (by omega)]
        by_cases h4 : P[j].f1 > 1099511627776 - t
        · rw [if_pos h4] at ht
          exact over_l1 x0 i hi m a n P B hP g ht.symm (t + P[j].f1) (by omega) d (j + 1) (by omega)
        · rw [if_neg h4] at ht
          exact ih (j + 1) (by omega) (t + P[j].f1) (by omega) (by omega) ht
theorem j4_ : Ev (fun k => gangwaylaw19_IovExact.j4 k x0 (i : Int) false m a n P B) true := by
  refine Ev.step (fun k => gangwaylaw19_IovExact.j4.eq_2 _ _ _ _ _ _ _ _ _) (Ev.ifn Bool.false_ne_true ?_)
  exact sum_l1 x0 i hi m a n P B hP g P.length 0 (by omega) 0 (by omega) (by omega) rfl
include hB
theorem j2_ (M : List Int) (hM : M.length = 65536) : Ev (fun k => gangwaylaw19_IovExact.j2 k x0 (i : Int) (P.all qm) false m a n P B M 1 M 1) true := by
  have e1 := scatter_ev M hM 1 P (by omega) B (by omega)
  refine Ev.step (fun k => gangwaylaw19_IovExact.j2.eq_2 _ _ _ _ _ _ _ _ _ _ _ _ _ _) (Ev.ifn Bool.false_ne_true (Ev.bd (copy_ev B (by omega)) (Ev.bd e1 ?_)))
  by_cases ha : P.all qm = true
  · have e2 := rscatter_ev M hM 1 P (by omega) ha B (by omega)
    have hl := sct_len B P 0 M ha (by omega) hM
    rw [ha]
    refine Ev.ifp rfl (Ev.bd e2 ?_)
    refine Ev.step (fun k => gangwaylaw19_IovExact.j3.eq_2 _ _ _ _ _ _ _ _ _ _ _ _ _ _ _ _) (Ev.val (v := 0) rfl (Ev.ifn (by decide) (Ev.ifp rfl (Ev.ifp rfl (Ev.bd (same_ev _ hl 1 1) ?_)))))
    exact j4_ x0 i hi m a n P B hP g
  · rw [Bool.eq_false_iff.mpr ha]
    refine Ev.ifn Bool.false_ne_true ?_
    refine Ev.step (fun k => gangwaylaw19_IovExact.j3.eq_2 _ _ _ _ _ _ _ _ _ _ _ _ _ _ _ _) (Ev.val (v := 21) rfl (Ev.ifn (by decide) (Ev.ifn Bool.false_ne_true (Ev.ifp rfl (Ev.ifp rfl (Ev.bd (same_ev M hM 1 1) ?_))))))
    exact j4_ x0 i hi m a n P B hP g
include hm hmb hn
theorem one_ : Ev (fun k => (gangwaylaw19_Both.f k m).bind fun bt328 => (if bt328.1 = true then (if bt328.2.2.2.1 = true then ((iov_Pieces.f k bt328.2.1 bt328.2.2.1 a n).bind fun bt340 => ((gangwayref20_Pieces.f k bt328.2.2.2.2.1 bt328.2.2.2.2.2 a n).bind fun bt348 => ((gangwaylaw19_num.f bt340.2.1).bind fun t356 => (if t356 = bt348.2.1 then ((gangwayref0_EqPieces.f k bt340.1 bt348.1).bind fun t357 => (if t357 = true then ((gangwayref20_Has.f k bt348.2.2.1 bt348.2.2.2 P).bind fun bt411 => ((iov_Gather.f k bt340.2.2.1 bt340.2.2.2 P).bind fun bt416 => ((gangwaylaw19_num.f bt416.2.1).bind fun t424 => (if (bt411.1 != (t424 == 0)) = true then (none) else (if bt411.1 = true then ((gangwayref20_Gather.f k bt411.2.1 bt411.2.2 P).bind fun bt425 => ((gangwayref0_EqBytes.f k bt416.1 bt425.1).bind fun t432 => (gangwaylaw19_IovExact.j2 k x0 (i : Int) bt411.1 (!t432) m a n P B bt416.2.2.1 bt416.2.2.2 bt425.2.1 bt425.2.2))) else (if t424 = 21 then (if (bt416.1.length : Int) > 0 then (none) else (gangwaylaw19_IovExact.j2 k x0 (i : Int) bt411.1 false m a n P B bt416.2.2.1 bt416.2.2.2 bt411.2.1 bt411.2.2)) else (none))))))) else (none))) else (none))))) else (none)) else (none))) true := by
  have hl := both_len m (by omega)
  have hy := both_byt m hmb
  have hb := both_ev m (by omega) hmb
  generalize m ++ List.replicate (65536 - m.length) (0 : Int) = M at *
  obtain ⟨r, hr, e1, e2⟩ := pieces_ev M hl hy 1 1 a n hn
  refine Ev.bd hb (Ev.ifp rfl (Ev.ifp rfl (Ev.bd e1 (Ev.bd e2 (Ev.val (v := r.2) rfl (Ev.ifp rfl (Ev.bd (eqp_ev r.1 (by omega)) (Ev.ifp rfl (Ev.bd (rhas_ev M hl 1 P (by omega)) (Ev.bd (gather_ev M hl 1 P (by omega)) ?_))))))))))
  have j2 := j2_ x0 i hi m a n P B hB hP g M hl
  by_cases ha : P.all qm = true
  · rw [if_pos ha, if_pos ha]
    rw [ha] at j2 ⊢
    have hgl := gat_len M hl P ha
    have hsb := sum_bd P ha
    refine Ev.val (v := 0) rfl (Ev.ifn (show ¬ ((true != ((0 : Int) == 0)) = true) by decide) (Ev.ifp rfl (Ev.bd (rgather_ev M hl 1 P (by omega) ha) (Ev.bd (Ev.big ((gat M P).length + 1) fun k hk => eqb_ev (gat M P) (gat M P) (by omega) k (by omega)) ?_))))
    rw [decide_eq_true rfl]
    exact j2
  · rw [if_neg ha, if_neg ha]
    rw [Bool.eq_false_iff.mpr ha] at j2 ⊢
    exact Ev.val (v := 21) rfl (Ev.ifn (show ¬ ((false != ((21 : Int) == 0)) = true) by decide) (Ev.ifn Bool.false_ne_true (Ev.ifp rfl (Ev.ifn (show ¬ (((([] : List Int).length : Nat) : Int) > 0) by decide) j2))))
end
theorem all_ (x0 : List S26) (hx : x0.length < 10000000000000000) (hk : ∀ y ∈ x0, okT26 y) : ∀ (d i : Nat), i + d = 8 → Ev (fun k => gangwaylaw19_IovExact.l0 k x0 (i : Int)) true := by
  have fin : ∀ i : Int, Ev (fun k => gangwaylaw19_IovExact.j1 k x0 i false) true := fun i => by
    refine Ev.step (fun k => gangwaylaw19_IovExact.j1.eq_2 _ _ _ _) (Ev.ifn Bool.false_ne_true (Ev.val (v := 100) rfl (Ev.val (v := 100) rfl (Ev.val (v := (0, 100)) rfl (Ev.val (v := 100) rfl (Ev.ifp rfl (Ev.val (v := 100) rfl (Ev.ifp rfl (Ev.val (v := 100) rfl (Ev.ifp rfl (Ev.ifp (show wrap64 0 = 0 by unfold wrap64; omega) ?_)))))))))))
    exact Ev.bd wakes_ev (Ev.cst rfl)
  intro d
  induction d with
  | zero =>
    intro i hi
    refine Ev.step (fun k => gangwaylaw19_IovExact.l0.eq_2 _ _ _) ?_
    by_cases hlt : (i : Int) < (x0.length : Int)
    · refine Ev.ifp hlt ?_
      rw [decide_eq_false (by omega)]
      exact fin _
    · exact Ev.ifn hlt (fin _)
  | succ d ih =>
    intro i hi
    refine Ev.step (fun k => gangwaylaw19_IovExact.l0.eq_2 _ _ _) ?_
    by_cases hlt : (i : Int) < (x0.length : Int)
    · refine Ev.ifp hlt ?_
      rw [decide_eq_true (show (i : Int) < 8 by omega)]
      refine Ev.step (fun k => gangwaylaw19_IovExact.j1.eq_2 _ _ _ _) (Ev.ifp rfl (Ev.ifp (by omega) (Ev.ifp hlt ?_)))
      have hm : rd_T26 x0 (i : Int) ∈ x0 := by
        unfold rd_T26
        rw [Int.toNat_natCast, List.getD_eq_getElem?_getD, List.getElem?_eq_getElem (by omega)]
        exact List.getElem_mem _
      obtain ⟨⟨h1, h2⟩, h3, h4, ⟨h5, h6⟩, h7, h8⟩ := hk _ hm
      generalize rd_T26 x0 (i : Int) = y at *
      have go := ih (i + 1) (by omega)
      obtain ⟨r, hr, e0⟩ := heavy_ev y.f0 y.f1 y.f2 y.f3 y.f4 (by omega) (by omega) (by omega)
      refine Ev.bd e0 ?_
      cases r with
      | true => exact Ev.ifp rfl (Ev.cst rfl)
      | false =>
        have hb := hr rfl
        exact Ev.ifn Bool.false_ne_true (one_ x0 i (by omega) y.f0 y.f1 y.f2 y.f3 y.f4 hb.1 (byt_of h2) hb.2.1 hb.2.2 (bd64 h4) go)
    · exact Ev.ifn hlt (fin _)
end Go.Proofs.Ytdoaininjfbemaa.QE
namespace Go.Proofs.Ytdoaininjfbemaa.Pure
open Go.RowKit Go.Proofs.Ytdoaininjfbemaa.PAll Go.Proofs.YtdoaininjfbemaaW.PrintWords Go.Proofs.Ytdoaininjfbemaa.QE
theorem IovExact : gangwaylaw19_IovExact.Pure := by
  intro x0 h
  exact Ev.rounds (all_ x0 (by have := h.1; omega) h.2 8 0 (by omega))
end Go.Proofs.Ytdoaininjfbemaa.Pure
