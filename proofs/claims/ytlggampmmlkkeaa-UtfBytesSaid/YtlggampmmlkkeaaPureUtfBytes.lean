/- Any code points' bytes are the reference's, or refused: for every list of asks. -/
import Derived.Test.YtlggampmmlkkeaaPAllx6
import Derived.Test.YtlggampmmlkkeaaQUtfR
namespace Go.Proofs.Ytlggampmmlkkeaa.Pure
open Go.RowKit Go.Proofs.Ytlggampmmlkkeaa.PAll Go.Proofs.YtlggampmmlkkeaaW.PrintWords Go.Proofs.YtlggampmmlkkeaaW.PrintLast Go.Proofs.YtlggampmmlkkeaaW.PrintMore Go.Proofs.YtlggampmmlkkeaaU Go.Proofs.Ytlggampmmlkkeaa.Q
set_option linter.unusedVariables false
set_option maxRecDepth 20000

theorem txt_len : ∀ (l : List Int), (txt l).length ≤ 4 * l.length
  | [] => by simp [txt]
  | p :: l => by
    have := enc_length p
    have h := txt_len l
    have e : txt (p :: l) = enc p ++ txt l := rfl
    rw [e, List.length_append, List.length_cons]
    omega
/-- What the law gathers: the bytes of those that may be, and whether one may not. -/
def gath : List Int → Int → List Int → Int × List Int
  | [], bad, acc => (bad, acc)
  | p :: l, bad, acc => if May p then gath l bad (acc ++ enc p) else gath l 100 acc
theorem gath_all : ∀ (l : List Int) (bad : Int) (acc : List Int), (∀ p ∈ l, May p) → gath l bad acc = (bad, acc ++ txt l)
  | [], bad, acc, _ => by simp [gath, txt]
  | p :: l, bad, acc, h => by
    simp only [gath]
    rw [if_pos (h p (by simp)), gath_all l bad _ (fun q hq => h q (by simp [hq]))]
    simp [txt]
theorem gath_100 : ∀ (l : List Int) (acc : List Int), (gath l 100 acc).1 = 100
  | [], acc => rfl
  | p :: l, acc => by
    simp only [gath]
    split
    · exact gath_100 l _
    · exact gath_100 l _
theorem gath_not : ∀ (l : List Int) (bad : Int) (acc : List Int), ¬ (∀ p ∈ l, May p) → (gath l bad acc).1 = 100
  | [], bad, acc, h => by simp at h
  | p :: l, bad, acc, h => by
    simp only [gath]
    by_cases hp : May p
    · rw [if_pos hp]
      exact gath_not l bad _ (fun hh => h (by intro q hq; rcases List.mem_cons.1 hq with rfl | hq; exact hp; exact hh q hq))
    · rw [if_neg hp]
      exact gath_100 l acc

theorem UtfBytes_l1 (l : List S27) (i : Nat) (hi : i < l.length) (x : S27) (hx : rd_T27 l (i : Int) = x) (hl1 : x.f1.length ≤ 1000) (T : Option Bool) (k0 : Nat)
    (hT : ∀ k, k0 ≤ k → gangwaylaw2_UtfBytes.j3 k l (i : Int) (if (∀ p ∈ x.f1, May p) then 0 else 100) (if (∀ p ∈ x.f1, May p) then txt x.f1 else []) = T) :
    ∀ (d j : Nat) (bad : Int) (acc : List Int), j + d = x.f1.length → acc.length ≤ 4 * j → gath (x.f1.drop j) bad acc = gath x.f1 0 [] → ∀ k, d + k0 < k → gangwaylaw2_UtfBytes.l1 k l (i : Int) bad acc (j : Int) = T := by
  intro d
  induction d with
  | zero =>
    intro j bad acc hj ha hg k hk
    obtain ⟨k, rfl⟩ : ∃ m, k = m + 1 := ⟨k - 1, by omega⟩
    simp only [gangwaylaw2_UtfBytes.l1]
    rw [if_pos (by omega), if_pos (by omega), hx, if_neg (by omega)]
    rw [List.drop_of_length_le (by omega)] at hg
    simp only [gath] at hg
    have h3 := hT k (by omega)
    by_cases ha : ∀ p ∈ x.f1, May p
    · rw [gath_all x.f1 0 [] ha] at hg
      simp only [List.nil_append, Prod.mk.injEq] at hg
      rw [if_pos ha, if_pos ha] at h3
      rw [if_pos hg.1, hg.1, hg.2]
      exact h3
    · have h1 := gath_not x.f1 0 [] ha
      rw [← hg] at h1
      simp only at h1
      rw [if_neg ha, if_neg ha] at h3
      rw [if_neg (by omega), h1]
      exact h3
  | succ d ih =>
    intro j bad acc hj ha hg k hk
    obtain ⟨k, rfl⟩ : ∃ m, k = m + 1 := ⟨k - 1, by omega⟩
    simp only [gangwaylaw2_UtfBytes.l1]
    rw [if_pos (by omega), if_pos (by omega), hx, if_pos (by omega), if_pos (by omega), rd_nat, point_eq, Option.bind_some, w64 (by omega) (by omega), show ((j : Int) + 1) = ((j + 1 : Nat) : Int) by omega]
    rw [drop_cons (b := x.f1) (i := j) (by omega)] at hg
    simp only [gath] at hg
    by_cases hm : May (x.f1.getD j 0)
    · have hen := enc_length (x.f1.getD j 0)
      rw [if_pos hm] at hg
      rw [if_pos (by simpa using hm), put1 _ hm, Option.bind_some, if_pos (by omega)]
      exact ih (j + 1) bad _ (by omega) (by rw [List.length_append]; omega) hg k (by omega)
    · rw [if_neg hm] at hg
      rw [if_neg (by simpa using hm)]
      exact ih (j + 1) 100 _ (by omega) (by omega) hg k (by omega)

theorem UtfBytes_l0 (l : List S27) (hl : l.length * 48 ≤ 140737488351232) (hok : ∀ x ∈ l, okT27 x) : ∀ (d i : Nat), i + d = l.length → ∀ k, 6000 * d + 6000 < k → gangwaylaw2_UtfBytes.l0 k l (i : Int) = some true := by
  intro d
  induction d with
  | zero =>
    intro i hi k hk
    obtain ⟨k, rfl⟩ : ∃ m, k = m + 2 := ⟨k - 2, by omega⟩
    simp only [gangwaylaw2_UtfBytes.l0]
    rw [if_neg (by omega)]
    simp only [gangwaylaw2_UtfBytes.j1]
    rw [if_neg (by simp), wakes_ev k (by omega)]
    rfl
  | succ d ih =>
    intro i hi k hk
    obtain ⟨k, rfl⟩ : ∃ m, k = m + 2 := ⟨k - 2, by omega⟩
    simp only [gangwaylaw2_UtfBytes.l0]
    rw [if_pos (by omega)]
    simp only [gangwaylaw2_UtfBytes.j1]
    by_cases h20 : (i : Int) < 20
    · rw [if_pos (by simpa using h20), if_pos (by omega), if_pos (by omega)]
      generalize hxx : rd_T27 l (i : Int) = x
      unfold gangwaylaw2_heavy.f
      by_cases hh : (x.f0.length : Int) > 3000
      · rw [if_pos hh]; rfl
      rw [if_neg hh, Option.bind_some]
      by_cases hh2 : (x.f1.length : Int) > 1000
      · rw [if_pos (by simpa using hh2)]
      rw [if_neg (by simpa using hh2)]
      refine UtfBytes_l1 l i (by omega) x hxx (by omega) (some true) (6000 * d + 6002) ?_ x.f1.length 0 0 [] (by omega) (by simp) (by simp) k (by omega)
      intro k hk
      obtain ⟨k, rfl⟩ : ∃ m, k = m + 1 := ⟨k - 1, by omega⟩
      simp only [gangwaylaw2_UtfBytes.j3]
      have next : gangwaylaw2_UtfBytes.l0 k l (wrap64 ((i : Int) + 1)) = some true := by
        rw [w64 (by omega) (by omega)]
        exact ih (i + 1) (by omega) k (by omega)
      rw [if_pos (by omega), if_pos (by omega), hxx, bytes_ev x.f1 (by omega) k (by omega)]
      unfold gangwaylaw2_num.f
      have hen := txt_len x.f1
      by_cases ha : ∀ p ∈ x.f1, May p
      · rw [if_pos ha, if_pos ha, if_pos ha]
        simp only [Option.bind_some, if_true]
        rw [eqb_ev _ _ (by omega) k (by omega)]
        simpa using next
      · rw [if_neg ha, if_neg ha, if_neg ha]
        simp only [Option.bind_some, if_true]
        rw [eqb_ev _ _ (by simp) k (by simp; omega)]
        simpa using next
    · rw [if_neg (by simpa using h20), wakes_ev k (by omega)]
      rfl

theorem UtfBytes : gangwaylaw2_UtfBytes.Pure := by
  intro l ⟨hl, hok⟩
  exact ⟨6000 * l.length + 6001, UtfBytes_l0 l hl hok l.length 0 (by omega) _ (by omega)⟩

end Go.Proofs.Ytlggampmmlkkeaa.Pure
