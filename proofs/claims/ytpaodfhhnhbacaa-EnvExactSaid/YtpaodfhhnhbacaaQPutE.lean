/- What the reference's put, Little, Has, and the tests of equality come to. -/
import Derived.Test.YtpaodfhhnhbacaaPAllx4
import Derived.Test.YtpaodfhhnhbacaaPAllx5
import Derived.Test.YtpaodfhhnhbacaaPAllx7
import Derived.Test.YtpaodfhhnhbacaaPur
import Derived.Test.YtpaodfhhnhbacaaEvs
namespace Go.Proofs.Ytpaodfhhnhbacaa.Q
open Go.RowKit Go.Proofs.Ytpaodfhhnhbacaa.PAll Go.Proofs.YtpaodfhhnhbacaaW.PrintWords Go.Proofs.YtpaodfhhnhbacaaW.PrintLast Go.Proofs.YtpaodfhhnhbacaaW.PrintMore Go.Proofs.YtpaodfhhnhbacaaU
set_option linter.unusedVariables false

theorem little_l0 (v : Int) (n : Nat) (hn : n ≤ 8) : ∀ (d j : Nat), j + d = n → ∀ k, d < k → gangwayref20_Little.l0 k v (n : Int) (le v j) (j : Int) = some (le v n) := by
  intro d
  induction d with
  | zero =>
    intro j hj k hk
    obtain ⟨k, rfl⟩ : ∃ m, k = m + 1 := ⟨k - 1, by omega⟩
    obtain rfl : j = n := by omega
    simp only [gangwayref20_Little.l0]
    rw [if_neg (by omega)]
  | succ d ih =>
    intro j hj k hk
    obtain ⟨k, rfl⟩ : ∃ m, k = m + 1 := ⟨k - 1, by omega⟩
    have e1 : wrap64 (8 * (j : Int)) = ((8 * j : Nat) : Int) := by rw [w64 (by omega) (by omega)]; omega
    have e3 : wrap64 ((j : Int) + 1) = ((j + 1 : Nat) : Int) := by rw [w64 (by omega) (by omega)]; omega
    simp only [gangwayref20_Little.l0]
    rw [if_pos (by omega), e1, e3, if_pos (by omega), if_pos (by rw [le_length]; omega), shr64 .u64 (.inr rfl) v _ (by omega), ← le_succ]
    exact ih (j + 1) (by omega) k (by omega)

theorem little_ev (v : Int) (n : Nat) (hn : n ≤ 8) (k : Nat) (hk : 9 ≤ k) : gangwayref20_Little.f k v (n : Int) = some (le v n) := by
  have := little_l0 v n hn n 0 (by omega) k (by omega)
  exact this

theorem put_l0 (b : List Int) (i : Nat) (p : List Int) (hb : i + p.length ≤ b.length) (hm : b.length < 140737488355328) : ∀ (d j : Nat), j + d = p.length → ∀ k, d < k →
    gangwayref20_put.l0 k (splice b i (p.take j)) (i : Int) p (j : Int) = some (splice b i p) := by
  intro d
  induction d with
  | zero =>
    intro j hj k hk
    obtain ⟨k, rfl⟩ : ∃ m, k = m + 1 := ⟨k - 1, by omega⟩
    simp only [gangwayref20_put.l0]
    rw [if_neg (by omega), List.take_of_length_le (by omega)]
  | succ d ih =>
    intro j hj k hk
    obtain ⟨k, rfl⟩ : ∃ m, k = m + 1 := ⟨k - 1, by omega⟩
    have ht : (p.take j).length = j := by simp; omega
    have hl : (splice b i (p.take j)).length = b.length := splice_length (by rw [ht]; omega)
    have e2 : wrap64 ((i : Int) + (j : Int)) = ((i + j : Nat) : Int) := by rw [w64 (by omega) (by omega)]; omega
    have e3 : wrap64 ((j : Int) + 1) = ((j + 1 : Nat) : Int) := by rw [w64 (by omega) (by omega)]; omega
    simp only [gangwayref20_put.l0]
    rw [if_pos (by omega), if_pos (by omega), e2, e3, hl, if_pos (by omega), if_pos (by omega)]
    have e4 : (splice b i (p.take j)).set (((i + j : Nat) : Int)).toNat (rd p (j : Int)) = splice b i (p.take (j + 1)) := by
      have := splice_set (b := b) (i := i) (p := p.take j) (rd p (j : Int)) (by rw [ht]; omega)
      rw [ht] at this
      have hr : rd p (j : Int) = p[j] := by rw [rd_nat, List.getD_eq_getElem?_getD, List.getElem?_eq_getElem (by omega)]; rfl
      rw [List.take_succ_eq_append_getElem (by omega), ← hr]
      exact this
    rw [e4]
    exact ih (j + 1) (by omega) k (by omega)

theorem put_ev (b : List Int) (i : Nat) (p : List Int) (hb : i + p.length ≤ b.length) (hm : b.length < 140737488355328) (k : Nat) (hk : p.length < k) :
    gangwayref20_put.f k b (i : Int) p = some (splice b i p) := by
  have := put_l0 b i p hb hm p.length 0 (by omega) k (by omega)
  rw [List.take_zero, splice_nil] at this
  exact this

theorem eqb_l0 (a b : List Int) (hl : a.length = b.length) (hm : a.length < 140737488355328) : ∀ (d j : Nat), j + d = a.length → ∀ k, d < k → gangwayref0_EqBytes.l0 k a b (j : Int) = some (decide (a.drop j = b.drop j)) := by
  intro d
  induction d with
  | zero =>
    intro j hj k hk
    obtain ⟨k, rfl⟩ : ∃ m, k = m + 1 := ⟨k - 1, by omega⟩
    simp only [gangwayref0_EqBytes.l0]
    rw [if_neg (by omega), List.drop_of_length_le (by omega), List.drop_of_length_le (by omega)]
    rfl
  | succ d ih =>
    intro j hj k hk
    obtain ⟨k, rfl⟩ : ∃ m, k = m + 1 := ⟨k - 1, by omega⟩
    have e3 : wrap64 ((j : Int) + 1) = ((j + 1 : Nat) : Int) := by rw [w64 (by omega) (by omega)]; omega
    simp only [gangwayref0_EqBytes.l0]
    rw [if_pos (by omega), if_pos (by omega), if_pos (by omega), rd_nat, rd_nat, e3]
    have hs := beq_cons_take (a := a) (b := b) (i := j) (by omega) (by omega)
    by_cases h : a.getD j 0 = b.getD j 0
    · rw [if_pos h, ih (j + 1) (by omega) k (by omega)]
      simp only [hs, h, true_and]
    · rw [if_neg h]
      simp only [hs, h, false_and, decide_false]

theorem eqb_ev (a b : List Int) (hm : a.length < 140737488355328) (k : Nat) (hk : a.length < k) : gangwayref0_EqBytes.f k a b = some (decide (a = b)) := by
  unfold gangwayref0_EqBytes.f
  by_cases h : a.length = b.length
  · rw [if_pos (by omega)]
    exact eqb_l0 a b h hm a.length 0 (by omega) k (by omega)
  · rw [if_neg (by omega)]
    have : a ≠ b := fun e => h (by rw [e])
    simp [this]

theorem rhas_eq {l : List Int} (s a n : Int) (hl : l.length ≤ 9223372036854775807) : gangwayref9_Mem_Has.f l s a n = some (decide (0 ≤ a ∧ 0 ≤ n ∧ a + n ≤ (l.length : Int)), l, s) := by
  unfold gangwayref9_Mem_Has.f
  by_cases h1 : a ≥ 0
  · rw [if_pos h1]
    by_cases h2 : n ≥ 0
    · rw [if_pos h2]
      by_cases h3 : n ≤ (l.length : Int)
      · rw [if_pos h3, w64 (by omega) (by omega)]
        congr 2
        simp only [decide_eq_decide]
        omega
      · rw [if_neg h3]
        congr 2
        simp
        omega
    · rw [if_neg h2]
      congr 2
      simp
      omega
  · rw [if_neg h1]
    congr 2
    simp
    omega
end Go.Proofs.Ytpaodfhhnhbacaa.Q
