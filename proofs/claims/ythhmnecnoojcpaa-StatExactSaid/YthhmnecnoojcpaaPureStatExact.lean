/- The bytes that stat tells of any descriptor, node, name, entry and event are the reference's, or refused: for every list of asks. -/
import Derived.Test.YthhmnecnoojcpaaPAllx16
import Derived.Test.YthhmnecnoojcpaaPAllx5
import Derived.Test.YthhmnecnoojcpaaQFd
import Derived.Test.YthhmnecnoojcpaaQEv
import Derived.Test.YthhmnecnoojcpaaQNode
import Derived.Test.YthhmnecnoojcpaaQDir
namespace Go.Proofs.Ythhmnecnoojcpaa.Pure
open Go.RowKit Go.Proofs.Ythhmnecnoojcpaa.PAll Go.Proofs.YthhmnecnoojcpaaW.PrintWords Go.Proofs.YthhmnecnoojcpaaW.PrintLast Go.Proofs.YthhmnecnoojcpaaW.PrintMore Go.Proofs.YthhmnecnoojcpaaU Go.Proofs.Ythhmnecnoojcpaa.Q Go.Proofs.Ythhmnecnoojcpaa.QKind Go.Proofs.Ythhmnecnoojcpaa.QNode Go.Proofs.Ythhmnecnoojcpaa.QDir Go.Proofs.Ythhmnecnoojcpaa.QEv Go.Proofs.Ythhmnecnoojcpaa.QFd
set_option linter.unusedVariables false

theorem nodeIs (a n : Int) (l1 : List Int) (l2 : List S93) (s : ByteArray) (links time : Int) (ok : Bool) (hok : ok = decide (MayN a n)) (k : Nat) (hk : 65 ≤ k) :
    gangwaylaw20_is.f k (if decide (MayN a n) then (noB (nodeT a) links (nsize a l1 l2 s) time n, 0) else (([] : List Int), (100 : Int))).1 (if decide (MayN a n) then (noB (nodeT a) links (nsize a l1 l2 s) time n, 0) else (([] : List Int), (100 : Int))).2 ok (noB (refT a) links (refSize a l1 l2 s) time n) = some true := by
  subst hok
  by_cases h : MayN a n
  · obtain ⟨e1, e2⟩ := same a n l1 l2 s h
    simp only [h, decide_true, if_true, e1, e2]
    exact is_ev _ _ _ _ (by rw [noB_length]; omega) k (by rw [noB_length]; omega) ⟨rfl, rfl⟩
  · simp only [h, decide_false, Bool.false_eq_true, if_false]
    exact is_ev _ _ _ _ (by simp) k (by simp; omega) ⟨rfl, rfl⟩

theorem StatExact_l0 (l : List S35) (hl : l.length * 256 ≤ 140737488351232) (hs : ∀ x ∈ l, x.f3.size ≤ 140737488351232) : ∀ (d i : Nat), i + d = l.length → ∀ k, 11 * d + 140737488351300 < k → gangwaylaw20_StatExact.l0 k l (i : Int) = some true := by
  intro d
  induction d with
  | zero =>
    intro i hi k hk
    obtain ⟨k, rfl⟩ : ∃ m, k = m + 3 := ⟨k - 3, by omega⟩
    simp only [gangwaylaw20_StatExact.l0]
    rw [if_neg (by omega)]
    simp only [gangwaylaw20_StatExact.j1]
    rw [if_neg (by simp)]
    simp only [gangwaylaw20_StatExact.j11]
    rw [wakes_ev k (by omega)]
    rfl
  | succ d ih =>
    intro i hi k hk
    obtain ⟨k, rfl⟩ : ∃ m, k = m + 11 := ⟨k - 11, by omega⟩
    simp only [gangwaylaw20_StatExact.l0]
    rw [if_pos (by omega)]
    simp only [gangwaylaw20_StatExact.j1]
    by_cases h20 : (i : Int) < 20
    · rw [if_pos (by simpa using h20)]
      simp only [gangwaylaw20_StatExact.j2]
      rw [if_pos (by omega), if_pos (by omega)]
      unfold gangwaylaw20_heavy.f
      rw [Option.bind_some]
      split
      · rfl
      · have hx : (rd_T35 l (i : Int)).f3.size ≤ 140737488351232 := by
          refine hs _ ?_
          unfold rd_T35
          rw [Int.toNat_natCast, List.getD_eq_getElem?_getD, List.getElem?_eq_getElem (by omega)]
          exact List.getElem_mem _
        generalize rd_T35 l (i : Int) = x at hx ⊢
        have j10 : gangwaylaw20_StatExact.j10 (k + 1) l (i : Int) (!true) = some true := by
          simp only [gangwaylaw20_StatExact.j10]
          rw [if_neg (by simp), w64 (by omega) (by omega)]
          exact ih (i + 1) (by omega) k (by omega)
        have j9 : gangwaylaw20_StatExact.j9 (k + 2) l (i : Int) x.f0.f0 x.f0.f1 x.f0.f2 x.f0.f3 x.f0.f4 x.f0.f5 x.f0.f6 x.f1.f0 x.f1.f1 x.f1.f2 x.f1.f3 x.f1.f4 x.f1.f5 x.f2 x.f3 x.f4 x.f5 x.f6 x.f7.f0 x.f7.f1 x.f7.f2 x.f7.f3 x.f8 = some true := by
          simp only [gangwaylaw20_StatExact.j9]
          rw [prestat_ev _ (k + 1) (by omega), Option.bind_some, refPrestat_ev _ (k + 1) (by omega), Option.bind_some, eqb_ev _ _ (by rw [preB_length]; omega) (k + 1) (by rw [preB_length]; omega), Option.bind_some, if_pos (by simp),
            stream_ev (k + 1) (by omega), Option.bind_some, refStream_ev, Option.bind_some, eqb_ev _ _ (by rw [strB_length]; omega) (k + 1) (by rw [strB_length]; omega), Option.bind_some, decide_eq_true rfl]
          exact j10
        have j8 : gangwaylaw20_StatExact.j8 (k + 3) l (i : Int) x.f0.f0 x.f0.f1 x.f0.f2 x.f0.f3 x.f0.f4 x.f0.f5 x.f0.f6 x.f1.f0 x.f1.f1 x.f1.f2 x.f1.f3 x.f1.f4 x.f1.f5 x.f2 x.f3 x.f4 x.f5 x.f6 x.f7.f0 x.f7.f1 x.f7.f2 x.f7.f3 x.f8 = some true := by
          simp only [gangwaylaw20_StatExact.j8]
          rw [event_ev _ _ _ _ (k + 2) (by omega), Option.bind_some, mayEvent_eq, Option.bind_some, refEvent_ev _ _ _ _ (k + 2) (by omega), Option.bind_some,
            is_ev _ _ _ _ (by split <;> simp [evB_length]) (k + 2) (by split <;> simp [evB_length] <;> omega) (by cases evMay x.f7.f1 x.f7.f2 x.f7.f3 <;> simp), Option.bind_some, if_pos rfl]
          exact j9
        have j7 : gangwaylaw20_StatExact.j7 (k + 4) l (i : Int) (!true) x.f0.f0 x.f0.f1 x.f0.f2 x.f0.f3 x.f0.f4 x.f0.f5 x.f0.f6 x.f1.f0 x.f1.f1 x.f1.f2 x.f1.f3 x.f1.f4 x.f1.f5 x.f2 x.f3 x.f4 x.f5 x.f6 x.f7.f0 x.f7.f1 x.f7.f2 x.f7.f3 x.f8 = some true := by
          simp only [gangwaylaw20_StatExact.j7]
          rw [if_neg (by simp)]
          exact j8
        have j6 : gangwaylaw20_StatExact.j6 (k + 5) l (i : Int) x.f0.f0 x.f0.f1 x.f0.f2 x.f0.f3 x.f0.f4 x.f0.f5 x.f0.f6 x.f1.f0 x.f1.f1 x.f1.f2 x.f1.f3 x.f1.f4 x.f1.f5 x.f2 x.f3 x.f4 x.f5 x.f6 x.f7.f0 x.f7.f1 x.f7.f2 x.f7.f3 x.f8 = some true := by
          simp only [gangwaylaw20_StatExact.j6]
          rw [dirent_ev _ _ _ _ hx (k + 4) (by omega), Option.bind_some, refDirent_ev _ _ _ _ hx (k + 4) (by omega)]
          have fin : ∀ ok : Bool, ok = decide (MayD x.f4 x.f5 x.f6) → ((some (dirB (refT x.f6) x.f4 x.f5 x.f3)).bind fun w => (gangwaylaw20_is.f (k + 4) (if decide (MayD x.f4 x.f5 x.f6) then (dirB (nodeT x.f6) x.f4 x.f5 x.f3, 0) else (([] : List Int), (100 : Int))).1 (if decide (MayD x.f4 x.f5 x.f6) then (dirB (nodeT x.f6) x.f4 x.f5 x.f3, 0) else (([] : List Int), (100 : Int))).2 ok w).bind fun t => gangwaylaw20_StatExact.j7 (k + 4) l (i : Int) (!t) x.f0.f0 x.f0.f1 x.f0.f2 x.f0.f3 x.f0.f4 x.f0.f5 x.f0.f6 x.f1.f0 x.f1.f1 x.f1.f2 x.f1.f3 x.f1.f4 x.f1.f5 x.f2 x.f3 x.f4 x.f5 x.f6 x.f7.f0 x.f7.f1 x.f7.f2 x.f7.f3 x.f8) = some true := by
            intro ok hok
            rw [Option.bind_some, dirIs _ _ _ _ hx ok hok (k + 4) (by omega), Option.bind_some, j7]
          by_cases a3 : x.f4 ≥ 0
          · rw [if_pos a3]
            by_cases a4 : x.f5 ≥ 0
            · rw [if_pos a4]
              by_cases a1 : x.f6 ≥ 1
              · rw [if_pos a1]
                refine fin _ ?_
                by_cases a2 : x.f6 ≤ 3
                · rw [decide_eq_true a2, decide_eq_true (show MayD x.f4 x.f5 x.f6 from ⟨a3, a4, a1, a2⟩)]
                · rw [decide_eq_false a2, decide_eq_false (fun h => a2 h.2.2.2)]
              · rw [if_neg a1]
                exact fin false (decide_eq_false (fun h => a1 h.2.2.1)).symm
            · rw [if_neg a4]
              exact fin false (decide_eq_false (fun h => a4 h.2.1)).symm
          · rw [if_neg a3]
            exact fin false (decide_eq_false (fun h => a3 h.1)).symm
        have j5 : gangwaylaw20_StatExact.j5 (k + 6) l (i : Int) (!true) x.f0.f0 x.f0.f1 x.f0.f2 x.f0.f3 x.f0.f4 x.f0.f5 x.f0.f6 x.f1.f0 x.f1.f1 x.f1.f2 x.f1.f3 x.f1.f4 x.f1.f5 x.f2 x.f3 x.f4 x.f5 x.f6 x.f7.f0 x.f7.f1 x.f7.f2 x.f7.f3 x.f8 = some true := by
          simp only [gangwaylaw20_StatExact.j5]
          rw [if_neg (by simp)]
          exact j6
        have j4 : gangwaylaw20_StatExact.j4 (k + 7) l (i : Int) x.f0.f0 x.f0.f1 x.f0.f2 x.f0.f3 x.f0.f4 x.f0.f5 x.f0.f6 x.f1.f0 x.f1.f1 x.f1.f2 x.f1.f3 x.f1.f4 x.f1.f5 x.f2 x.f3 x.f4 x.f5 x.f6 x.f7.f0 x.f7.f1 x.f7.f2 x.f7.f3 x.f8 = some true := by
          simp only [gangwaylaw20_StatExact.j4]
          rw [filestat_ev _ _ _ _ _ _ _ (k + 6) (by omega), Option.bind_some, ref_ev _ _ _ _ _ _ _ (k + 6) (by omega)]
          have fin : ∀ ok : Bool, ok = decide (MayN x.f1.f0 x.f2) → ((some (noB (refT x.f1.f0) x.f1.f4 (refSize x.f1.f0 x.f1.f1 x.f1.f2 x.f1.f3) x.f1.f5 x.f2)).bind fun w => (gangwaylaw20_is.f (k + 6) (if decide (MayN x.f1.f0 x.f2) then (noB (nodeT x.f1.f0) x.f1.f4 (nsize x.f1.f0 x.f1.f1 x.f1.f2 x.f1.f3) x.f1.f5 x.f2, 0) else (([] : List Int), (100 : Int))).1 (if decide (MayN x.f1.f0 x.f2) then (noB (nodeT x.f1.f0) x.f1.f4 (nsize x.f1.f0 x.f1.f1 x.f1.f2 x.f1.f3) x.f1.f5 x.f2, 0) else (([] : List Int), (100 : Int))).2 ok w).bind fun t => gangwaylaw20_StatExact.j5 (k + 6) l (i : Int) (!t) x.f0.f0 x.f0.f1 x.f0.f2 x.f0.f3 x.f0.f4 x.f0.f5 x.f0.f6 x.f1.f0 x.f1.f1 x.f1.f2 x.f1.f3 x.f1.f4 x.f1.f5 x.f2 x.f3 x.f4 x.f5 x.f6 x.f7.f0 x.f7.f1 x.f7.f2 x.f7.f3 x.f8) = some true := by
            intro ok hok
            rw [Option.bind_some, nodeIs _ _ _ _ _ _ _ ok hok (k + 6) (by omega), Option.bind_some, j5]
          by_cases a1 : x.f1.f0 ≥ 1
          · rw [if_pos a1]
            by_cases a2 : x.f1.f0 ≤ 3
            · rw [if_pos a2]
              by_cases a3 : x.f2 ≥ 0
              · rw [if_pos a3]
                refine fin _ ?_
                by_cases a4 : x.f2 < 64
                · rw [decide_eq_true a4, decide_eq_true (show MayN x.f1.f0 x.f2 from ⟨⟨a1, a2⟩, a3, a4⟩)]
                · rw [decide_eq_false a4, decide_eq_false (fun h => a4 h.2.2)]
              · rw [if_neg a3]
                exact fin false (decide_eq_false (fun h => a3 h.2.1)).symm
            · rw [if_neg a2]
              exact fin false (decide_eq_false (fun h => a2 h.1.2)).symm
          · rw [if_neg a1]
            exact fin false (decide_eq_false (fun h => a1 h.1.1)).symm
        simp only [gangwaylaw20_StatExact.j3]
        rw [fdstat_ev _ _ _ _ _ _ _ (k + 7) (by omega), Option.bind_some, ref17, Option.bind_some, refFdstat_ev _ _ _ _ _ _ _ (k + 7) (by omega), Option.bind_some,
          is_ev _ _ _ _ (by split <;> simp [fdB_length]) (k + 7) (by split <;> simp [fdB_length] <;> omega) (by by_cases h : MayFd x.f0.f0 x.f0.f1 x.f0.f2 x.f0.f3 x.f0.f4 x.f0.f5 x.f0.f6 <;> simp [h]), Option.bind_some, if_pos rfl]
        exact j4
    · rw [if_neg (by simpa using h20)]
      simp only [gangwaylaw20_StatExact.j11]
      rw [wakes_ev (k + 8) (by omega)]
      rfl

theorem StatExact : gangwaylaw20_StatExact.Pure := by
  intro l ⟨hl, hok⟩
  exact ⟨11 * l.length + 140737488351301, StatExact_l0 l hl (fun x hx => by have := hok x hx; simp only [okT35] at this; omega) l.length 0 (by omega) _ (by omega)⟩

end Go.Proofs.Ythhmnecnoojcpaa.Pure
