/- The bytes that stat tells of any node are the reference's, or refused: for every list of asks. -/
import Derived.Test.YthhmnecnoojcpaaPAllx14
import Derived.Test.YthhmnecnoojcpaaPAllx5
import Derived.Test.YthhmnecnoojcpaaQNode
namespace Go.Proofs.Ythhmnecnoojcpaa.Pure
open Go.RowKit Go.Proofs.Ythhmnecnoojcpaa.PAll Go.Proofs.YthhmnecnoojcpaaW.PrintWords Go.Proofs.YthhmnecnoojcpaaW.PrintLast Go.Proofs.YthhmnecnoojcpaaW.PrintMore Go.Proofs.YthhmnecnoojcpaaU Go.Proofs.Ythhmnecnoojcpaa.Q Go.Proofs.Ythhmnecnoojcpaa.QKind Go.Proofs.Ythhmnecnoojcpaa.QNode
set_option linter.unusedVariables false

theorem nodeIs (a n : Int) (l1 : List Int) (l2 : List S93) (s : ByteArray) (links time : Int) (ok : Bool) (hok : ok = decide (MayN a n)) (k : Nat) (hk : 65 ≤ k) :
    gangwaylaw20_is.f k (if decide (MayN a n) then (noB (nodeT a) links (nsize a l1 l2 s) time n, 0) else (([] : List Int), (100 : Int))).1 (if decide (MayN a n) then (noB (nodeT a) links (nsize a l1 l2 s) time n, 0) else (([] : List Int), (100 : Int))).2 ok (noB (refT a) links (refSize a l1 l2 s) time n) = some true := by
  subst hok
  by_cases h : MayN a n
  · obtain ⟨e1, e2⟩ := same a n l1 l2 s h
    simp only [h, decide_true, if_true, e1, e2]
    exact is_ev _ _ _ _ (by rw [noB_length]; omega) k (by rw [noB_length]; omega) ⟨rfl, rfl⟩
  · simp only [h, decide_false, Bool.false_eq_true, if_false]
    exact is_ev _ _ _ _ (by simp) k (by simp; omega) ⟨rfl, rfl⟩

theorem StatNodes_l0 (l : List S35) (hl : l.length * 256 ≤ 140737488351232) : ∀ (d i : Nat), i + d = l.length → ∀ k, 5 * d + 80 < k → gangwaylaw20_StatNodes.l0 k l (i : Int) = some true := by
  intro d
  induction d with
  | zero =>
    intro i hi k hk
    obtain ⟨k, rfl⟩ : ∃ m, k = m + 3 := ⟨k - 3, by omega⟩
    simp only [gangwaylaw20_StatNodes.l0]
    rw [if_neg (by omega)]
    simp only [gangwaylaw20_StatNodes.j1]
    rw [if_neg (by simp)]
    simp only [gangwaylaw20_StatNodes.j5]
    rw [wakes_ev k (by omega)]
    rfl
  | succ d ih =>
    intro i hi k hk
    obtain ⟨k, rfl⟩ : ∃ m, k = m + 5 := ⟨k - 5, by omega⟩
    simp only [gangwaylaw20_StatNodes.l0]
    rw [if_pos (by omega)]
    simp only [gangwaylaw20_StatNodes.j1]
    by_cases h20 : (i : Int) < 20
    · rw [if_pos (by simpa using h20)]
      simp only [gangwaylaw20_StatNodes.j2]
      rw [if_pos (by omega), if_pos (by omega)]
      unfold gangwaylaw20_heavy.f
      rw [Option.bind_some]
      split
      · rfl
      · simp only [gangwaylaw20_StatNodes.j3]
        rw [if_pos (by omega), if_pos (by omega)]
        generalize rd_T35 l (i : Int) = x
        rw [filestat_ev _ _ _ _ _ _ _ (k + 1) (by omega), Option.bind_some, ref_ev _ _ _ _ _ _ _ (k + 1) (by omega)]
        have next : gangwaylaw20_StatNodes.j4 (k + 1) l (i : Int) (!true) = some true := by
          simp only [gangwaylaw20_StatNodes.j4]
          rw [if_neg (by simp), w64 (by omega) (by omega)]
          exact ih (i + 1) (by omega) k (by omega)
        have fin : ∀ ok : Bool, ok = decide (MayN x.f1.f0 x.f2) → ((gangwaylaw20_is.f (k + 1) (if decide (MayN x.f1.f0 x.f2) then (noB (nodeT x.f1.f0) x.f1.f4 (nsize x.f1.f0 x.f1.f1 x.f1.f2 x.f1.f3) x.f1.f5 x.f2, 0) else (([] : List Int), (100 : Int))).1 (if decide (MayN x.f1.f0 x.f2) then (noB (nodeT x.f1.f0) x.f1.f4 (nsize x.f1.f0 x.f1.f1 x.f1.f2 x.f1.f3) x.f1.f5 x.f2, 0) else (([] : List Int), (100 : Int))).2 ok (noB (refT x.f1.f0) x.f1.f4 (refSize x.f1.f0 x.f1.f1 x.f1.f2 x.f1.f3) x.f1.f5 x.f2)).bind fun t => gangwaylaw20_StatNodes.j4 (k + 1) l (i : Int) (!t)) = some true := by
          intro ok hok
          rw [nodeIs _ _ _ _ _ _ _ ok hok (k + 1) (by omega), Option.bind_some, next]
        by_cases a1 : x.f1.f0 ≥ 1
        · rw [if_pos a1]
          by_cases a2 : x.f1.f0 ≤ 3
          · rw [if_pos a2]
            by_cases a3 : x.f2 ≥ 0
            · rw [if_pos a3]
              refine fin _ ?_
              by_cases a4 : x.f2 < 64
              · rw [decide_eq_true a4, decide_eq_true (show MayN x.f1.f0 x.f2 from ⟨⟨a1, a2⟩, a3, a4⟩)]
              · rw [decide_eq_false a4, decide_eq_false (fun h => a4 h.2.2)]
            · rw [if_neg a3]
              exact fin false (decide_eq_false (fun h => a3 h.2.1)).symm
          · rw [if_neg a2]
            exact fin false (decide_eq_false (fun h => a2 h.1.2)).symm
        · rw [if_neg a1]
          exact fin false (decide_eq_false (fun h => a1 h.1.1)).symm
    · rw [if_neg (by simpa using h20)]
      simp only [gangwaylaw20_StatNodes.j5]
      rw [wakes_ev (k + 2) (by omega)]
      rfl

theorem StatNodes : gangwaylaw20_StatNodes.Pure := by
  intro l ⟨hl, _⟩
  exact ⟨5 * l.length + 81, StatNodes_l0 l hl l.length 0 (by omega) _ (by omega)⟩

end Go.Proofs.Ythhmnecnoojcpaa.Pure
