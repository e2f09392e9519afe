/- Any number's bytes, unsigned and signed, are the reference's: for every list of asks. -/
import Derived.Test.YtgmlnigelbplnaaPAllx5
import Derived.Test.YtgmlnigelbplnaaQLebU
import Derived.Test.YtgmlnigelbplnaaQLebP
namespace Go.Proofs.Ytgmlnigelbplnaa.Pure
open Go.RowKit Go.Proofs.Ytgmlnigelbplnaa.PAll Go.Proofs.YtgmlnigelbplnaaW.PrintWords Go.Proofs.YtgmlnigelbplnaaW.PrintLast Go.Proofs.YtgmlnigelbplnaaW.PrintMore Go.Proofs.YtgmlnigelbplnaaU Go.Proofs.Ytgmlnigelbplnaa.Q
set_option linter.unusedVariables false

theorem LebPuts_l0 (l : List S26) (hl : l.length * 48 ≤ 140737488351232) (hok : ∀ x ∈ l, okT26 x) : ∀ (d i : Nat), i + d = l.length → ∀ k, 2 * d + 60 < k → gangwaylaw1_LebPuts.l0 k l (i : Int) = some true := by
  intro d
  induction d with
  | zero =>
    intro i hi k hk
    obtain ⟨k, rfl⟩ : ∃ m, k = m + 2 := ⟨k - 2, by omega⟩
    simp only [gangwaylaw1_LebPuts.l0]
    rw [if_neg (by omega)]
    simp only [gangwaylaw1_LebPuts.j1]
    rw [if_neg (by simp), wakes_ev k (by omega)]
    rfl
  | succ d ih =>
    intro i hi k hk
    obtain ⟨k, rfl⟩ : ∃ m, k = m + 2 := ⟨k - 2, by omega⟩
    simp only [gangwaylaw1_LebPuts.l0]
    rw [if_pos (by omega)]
    simp only [gangwaylaw1_LebPuts.j1]
    by_cases h20 : (i : Int) < 30
    · rw [if_pos (by simpa using h20), if_pos (by omega), if_pos (by omega)]
      have hx : okT26 (rd_T26 l (i : Int)) := by
        unfold rd_T26
        rw [show (i : Int).toNat = i from rfl, List.getD_eq_getElem?_getD, List.getElem?_eq_getElem (by omega)]
        exact hok _ (List.getElem_mem _)
      generalize rd_T26 l (i : Int) = x at hx ⊢
      obtain ⟨_, _, hu, hs⟩ := hx
      have hu := bdu64 hu
      have hs := bd64 hs
      have l1 := pu_length 9 x.f2
      have l2 := ps_length 9 x.f3
      rw [put_ev x.f2 hu.1 hu.2 k (by omega), Option.bind_some, rput_ev x.f2 hu.1 hu.2 k (by omega), Option.bind_some, eqb_ev _ _ (by omega) k (by omega), Option.bind_some, if_pos (by simp),
        puts_ev x.f3 hs.1 hs.2 k (by omega), Option.bind_some, rputs_ev x.f3 hs.1 hs.2 k (by omega), Option.bind_some, eqb_ev _ _ (by omega) k (by omega), Option.bind_some, if_pos (by simp), w64 (by omega) (by omega)]
      exact ih (i + 1) (by omega) k (by omega)
    · rw [if_neg (by simpa using h20), wakes_ev k (by omega)]
      rfl

theorem LebPuts : gangwaylaw1_LebPuts.Pure := by
  intro l ⟨hl, hok⟩
  exact ⟨2 * l.length + 61, LebPuts_l0 l hl hok l.length 0 (by omega) _ (by omega)⟩

end Go.Proofs.Ytgmlnigelbplnaa.Pure
