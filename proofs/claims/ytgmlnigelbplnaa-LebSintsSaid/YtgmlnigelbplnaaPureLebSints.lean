/- The number with a sign with whose bytes any bytes begin is the reference's, or there is none: for every list of asks. -/
import Derived.Test.YtgmlnigelbplnaaPAllx8
import Derived.Test.YtgmlnigelbplnaaQLebU
import Derived.Test.YtgmlnigelbplnaaQLebS
namespace Go.Proofs.Ytgmlnigelbplnaa.Pure
open Go.RowKit Go.Proofs.Ytgmlnigelbplnaa.PAll Go.Proofs.YtgmlnigelbplnaaW.PrintWords Go.Proofs.YtgmlnigelbplnaaW.PrintLast Go.Proofs.YtgmlnigelbplnaaW.PrintMore Go.Proofs.YtgmlnigelbplnaaU Go.Proofs.Ytgmlnigelbplnaa.Q
set_option linter.unusedVariables false

theorem rsint_pos {b : List Int} {bits : Int} {v : Int} {n : Nat} (h : rsint b bits = some (v, n)) : n ≠ 0 := by
  unfold rsint at h
  simp only at h
  split at h
  · cases h
  · rename_i hh
    simp only [Option.some.injEq, Prod.mk.injEq] at h
    intro e
    exact hh (.inl (by omega))

theorem s_j3 (l : List S26) (i : Int) (r : Option (Int × Nat)) (hr : ∀ v n, r = some (v, n) → n ≠ 0) (k : Nat) :
    gangwaylaw1_LebSints.j3 (k + 1) l i (outS r).1 (outS r).2.1 (outS r).2.2 (outR r).1 (outR r).2 = gangwaylaw1_LebSints.l0 k l (wrap64 (i + 1)) := by
  cases r with
  | none => simp [gangwaylaw1_LebSints.j3, outS, outR, gangwaylaw1_num.f]
  | some p =>
    obtain ⟨v, n⟩ := p
    have hn := hr v n rfl
    have h1 : 0 < n := by omega
    simp [gangwaylaw1_LebSints.j3, outS, outR, gangwaylaw1_num.f, h1, hn]

theorem LebSints_l0 (l : List S26) (hl : l.length * 48 ≤ 140737488351232) (hok : ∀ x ∈ l, okT26 x) : ∀ (d i : Nat), i + d = l.length → ∀ k, 4 * d + 60 < k → gangwaylaw1_LebSints.l0 k l (i : Int) = some true := by
  intro d
  induction d with
  | zero =>
    intro i hi k hk
    obtain ⟨k, rfl⟩ : ∃ m, k = m + 2 := ⟨k - 2, by omega⟩
    simp only [gangwaylaw1_LebSints.l0]
    rw [if_neg (by omega)]
    simp only [gangwaylaw1_LebSints.j1]
    rw [if_neg (by simp), wakes_ev k (by omega)]
    rfl
  | succ d ih =>
    intro i hi k hk
    obtain ⟨k, rfl⟩ : ∃ m, k = m + 4 := ⟨k - 4, by omega⟩
    simp only [gangwaylaw1_LebSints.l0]
    rw [if_pos (by omega)]
    simp only [gangwaylaw1_LebSints.j1]
    by_cases h20 : (i : Int) < 30
    · rw [if_pos (by simpa using h20), if_pos (by omega), if_pos (by omega)]
      have hx : okT26 (rd_T26 l (i : Int)) := by
        unfold rd_T26
        rw [show (i : Int).toNat = i from rfl, List.getD_eq_getElem?_getD, List.getElem?_eq_getElem (by omega)]
        exact hok _ (List.getElem_mem _)
      generalize rd_T26 l (i : Int) = x at hx ⊢
      obtain ⟨⟨hbl, hby⟩, hbits, _, _⟩ := hx
      have hb : Bytes x.f0 := Bytes.of (by omega) hby
      have next : gangwaylaw1_LebSints.l0 k l (wrap64 ((i : Int) + 1)) = some true := by
        rw [w64 (by omega) (by omega)]
        exact ih (i + 1) (by omega) k (by omega)
      rw [sint_ev x.f0 hb x.f1 (k + 2) (by omega), Option.bind_some]
      by_cases h1 : x.f1 ≥ 1
      · rw [if_pos h1]
        simp only [gangwaylaw1_LebSints.j2]
        by_cases h2 : x.f1 ≤ 64
        · rw [if_pos (by simpa using h2), refS_ev x.f0 hb x.f1 h1 h2 (k + 1) (by omega), Option.bind_some, s_j3 l (i : Int) (readS x.f0 x.f1) (by
            intro v n h; unfold readS at h; rw [if_pos ⟨h1, h2⟩] at h; exact rsint_pos h) k]
          exact next
        · rw [if_neg (by simpa using h2)]
          have e : readS x.f0 x.f1 = none := by unfold readS; rw [if_neg (by omega)]
          rw [e]
          have := s_j3 l (i : Int) none (by simp) k
          simp only [outS, outR] at this ⊢
          rw [this]
          exact next
      · rw [if_neg h1]
        have e : readS x.f0 x.f1 = none := by unfold readS; rw [if_neg (by omega)]
        rw [e]
        have := s_j3 l (i : Int) none (by simp) k
        simp only [gangwaylaw1_LebSints.j2, outS, outR] at this ⊢
        rw [if_neg (by simp), this]
        exact next
    · rw [if_neg (by simpa using h20), wakes_ev (k + 2) (by omega)]
      rfl

theorem LebSints : gangwaylaw1_LebSints.Pure := by
  intro l ⟨hl, hok⟩
  exact ⟨4 * l.length + 61, LebSints_l0 l hl hok l.length 0 (by omega) _ (by omega)⟩

end Go.Proofs.Ytgmlnigelbplnaa.Pure
