/- The bytes that stat tells of any entry of a directory are the reference's, or refused: for every list of asks. -/
import Derived.Test.YthhmnecnoojcpaaPAllx6
import Derived.Test.YthhmnecnoojcpaaPAllx5
import Derived.Test.YthhmnecnoojcpaaQDir
namespace Go.Proofs.Ythhmnecnoojcpaa.Pure
open Go.RowKit Go.Proofs.Ythhmnecnoojcpaa.PAll Go.Proofs.YthhmnecnoojcpaaW.PrintWords Go.Proofs.YthhmnecnoojcpaaW.PrintLast Go.Proofs.YthhmnecnoojcpaaW.PrintMore Go.Proofs.YthhmnecnoojcpaaU Go.Proofs.Ythhmnecnoojcpaa.Q Go.Proofs.Ythhmnecnoojcpaa.QKind Go.Proofs.Ythhmnecnoojcpaa.QDir
set_option linter.unusedVariables false

theorem StatEntries_l0 (l : List S35) (hl : l.length * 256 ≤ 140737488351232) (hs : ∀ x ∈ l, x.f3.size ≤ 140737488351232) : ∀ (d i : Nat), i + d = l.length → ∀ k, 5 * d + 140737488351300 < k → gangwaylaw20_StatEntries.l0 k l (i : Int) = some true := by
  intro d
  induction d with
  | zero =>
    intro i hi k hk
    obtain ⟨k, rfl⟩ : ∃ m, k = m + 3 := ⟨k - 3, by omega⟩
    simp only [gangwaylaw20_StatEntries.l0]
    rw [if_neg (by omega)]
    simp only [gangwaylaw20_StatEntries.j1]
    rw [if_neg (by simp)]
    simp only [gangwaylaw20_StatEntries.j5]
    rw [wakes_ev k (by omega)]
    rfl
  | succ d ih =>
    intro i hi k hk
    obtain ⟨k, rfl⟩ : ∃ m, k = m + 5 := ⟨k - 5, by omega⟩
    simp only [gangwaylaw20_StatEntries.l0]
    rw [if_pos (by omega)]
    simp only [gangwaylaw20_StatEntries.j1]
    by_cases h20 : (i : Int) < 20
    · rw [if_pos (by simpa using h20)]
      simp only [gangwaylaw20_StatEntries.j2]
      rw [if_pos (by omega), if_pos (by omega)]
      unfold gangwaylaw20_heavy.f
      rw [Option.bind_some]
      split
      · rfl
      · simp only [gangwaylaw20_StatEntries.j3]
        have hx : (rd_T35 l (i : Int)).f3.size ≤ 140737488351232 := by
          refine hs _ ?_
          unfold rd_T35
          rw [Int.toNat_natCast, List.getD_eq_getElem?_getD, List.getElem?_eq_getElem (by omega)]
          exact List.getElem_mem _
        generalize rd_T35 l (i : Int) = x at hx ⊢
        rw [dirent_ev _ _ _ _ hx (k + 1) (by omega), Option.bind_some, refDirent_ev _ _ _ _ hx (k + 1) (by omega)]
        have next : gangwaylaw20_StatEntries.j4 (k + 1) l (i : Int) (!true) = some true := by
          simp only [gangwaylaw20_StatEntries.j4]
          rw [if_neg (by simp), w64 (by omega) (by omega)]
          exact ih (i + 1) (by omega) k (by omega)
        have fin : ∀ ok : Bool, ok = decide (MayD x.f4 x.f5 x.f6) → ((some (dirB (refT x.f6) x.f4 x.f5 x.f3)).bind fun w => (gangwaylaw20_is.f (k + 1) (if decide (MayD x.f4 x.f5 x.f6) then (dirB (nodeT x.f6) x.f4 x.f5 x.f3, 0) else (([] : List Int), (100 : Int))).1 (if decide (MayD x.f4 x.f5 x.f6) then (dirB (nodeT x.f6) x.f4 x.f5 x.f3, 0) else (([] : List Int), (100 : Int))).2 ok w).bind fun t => gangwaylaw20_StatEntries.j4 (k + 1) l (i : Int) (!t)) = some true := by
          intro ok hok
          rw [Option.bind_some, dirIs _ _ _ _ hx ok hok (k + 1) (by omega), Option.bind_some, next]
        by_cases a3 : x.f4 ≥ 0
        · rw [if_pos a3]
          by_cases a4 : x.f5 ≥ 0
          · rw [if_pos a4]
            by_cases a1 : x.f6 ≥ 1
            · rw [if_pos a1]
              refine fin _ ?_
              by_cases a2 : x.f6 ≤ 3
              · rw [decide_eq_true a2, decide_eq_true (show MayD x.f4 x.f5 x.f6 from ⟨a3, a4, a1, a2⟩)]
              · rw [decide_eq_false a2, decide_eq_false (fun h => a2 h.2.2.2)]
            · rw [if_neg a1]
              exact fin false (decide_eq_false (fun h => a1 h.2.2.1)).symm
          · rw [if_neg a4]
            exact fin false (decide_eq_false (fun h => a4 h.2.1)).symm
        · rw [if_neg a3]
          exact fin false (decide_eq_false (fun h => a3 h.1)).symm
    · rw [if_neg (by simpa using h20)]
      simp only [gangwaylaw20_StatEntries.j5]
      rw [wakes_ev (k + 2) (by omega)]
      rfl

theorem StatEntries : gangwaylaw20_StatEntries.Pure := by
  intro l ⟨hl, hok⟩
  exact ⟨5 * l.length + 140737488351301, StatEntries_l0 l hl (fun x hx => by have := hok x hx; simp only [okT35] at this; omega) l.length 0 (by omega) _ (by omega)⟩

end Go.Proofs.Ythhmnecnoojcpaa.Pure
