/- Any bytes' code points are the reference's, or there are none: for every list of asks. -/
import Derived.Test.YtlggampmmlkkeaaPAllx5
import Derived.Test.YtlggampmmlkkeaaQUtfR
namespace Go.Proofs.Ytlggampmmlkkeaa.Pure
open Go.RowKit Go.Proofs.Ytlggampmmlkkeaa.PAll Go.Proofs.YtlggampmmlkkeaaW.PrintWords Go.Proofs.YtlggampmmlkkeaaW.PrintLast Go.Proofs.YtlggampmmlkkeaaW.PrintMore Go.Proofs.YtlggampmmlkkeaaU Go.Proofs.Ytlggampmmlkkeaa.Q
set_option linter.unusedVariables false

theorem UtfPoints_l0 (l : List S27) (hl : l.length * 48 ≤ 140737488351232) (hok : ∀ x ∈ l, okT27 x) : ∀ (d i : Nat), i + d = l.length → ∀ k, 2 * d + 4000 < k → gangwaylaw2_UtfPoints.l0 k l (i : Int) = some true := by
  intro d
  induction d with
  | zero =>
    intro i hi k hk
    obtain ⟨k, rfl⟩ : ∃ m, k = m + 2 := ⟨k - 2, by omega⟩
    simp only [gangwaylaw2_UtfPoints.l0]
    rw [if_neg (by omega)]
    simp only [gangwaylaw2_UtfPoints.j1]
    rw [if_neg (by simp), wakes_ev k (by omega)]
    rfl
  | succ d ih =>
    intro i hi k hk
    obtain ⟨k, rfl⟩ : ∃ m, k = m + 2 := ⟨k - 2, by omega⟩
    simp only [gangwaylaw2_UtfPoints.l0]
    rw [if_pos (by omega)]
    simp only [gangwaylaw2_UtfPoints.j1]
    by_cases h20 : (i : Int) < 20
    · rw [if_pos (by simpa using h20), if_pos (by omega), if_pos (by omega)]
      have hx : okT27 (rd_T27 l (i : Int)) := by
        unfold rd_T27
        rw [show (i : Int).toNat = i from rfl, List.getD_eq_getElem?_getD, List.getElem?_eq_getElem (by omega)]
        exact hok _ (List.getElem_mem _)
      generalize rd_T27 l (i : Int) = x at hx ⊢
      obtain ⟨⟨_, hby⟩, _⟩ := hx
      unfold gangwaylaw2_heavy.f
      by_cases hh : (x.f0.length : Int) > 3000
      · rw [if_pos hh]; rfl
      rw [if_neg hh, Option.bind_some]
      by_cases hh2 : (x.f1.length : Int) > 1000
      · rw [if_pos (by simpa using hh2)]
      rw [if_neg (by simpa using hh2)]
      have hb : Bytes x.f0 := ⟨by omega, fun y hy => bd8 (hby y hy)⟩
      have next : gangwaylaw2_UtfPoints.l0 k l (wrap64 ((i : Int) + 1)) = some true := by
        rw [w64 (by omega) (by omega)]
        exact ih (i + 1) (by omega) k (by omega)
      rw [copy_ev x.f0 (by omega) k (by omega), Option.bind_some, points_ev x.f0 hb k (by omega), Option.bind_some, rpoints_ev x.f0 hb k (by omega), Option.bind_some, check_ev x.f0 hb k (by omega), Option.bind_some]
      unfold gangwaylaw2_num.f
      have e2 := eqb_ev x.f0 x.f0 (by omega) k (by omega)
      cases hp : pts x.f0.length x.f0 with
      | none =>
        have e1 := eqp_ev [] [] (by decide) k (by simp; omega)
        have e3 := spoil_ev [] (by decide) k (by simp; omega)
        simp [outP, outQ, e1, e2, e3, next]
      | some m =>
        have hm := pts_len _ _ _ (fun y hy => (hb.2 y hy).1) hp
        have e1 := eqp_ev m m (by omega) k (by omega)
        have e3 := spoil_ev m (by omega) k (by omega)
        simp [outP, outQ, e1, e2, e3, next]
    · rw [if_neg (by simpa using h20), wakes_ev k (by omega)]
      rfl

theorem UtfPoints : gangwaylaw2_UtfPoints.Pure := by
  intro l ⟨hl, hok⟩
  exact ⟨2 * l.length + 4001, UtfPoints_l0 l hl hok l.length 0 (by omega) _ (by omega)⟩

end Go.Proofs.Ytlggampmmlkkeaa.Pure
