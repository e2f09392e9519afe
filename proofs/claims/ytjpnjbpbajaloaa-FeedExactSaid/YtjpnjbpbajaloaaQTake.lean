/- What the calls of a feed that take bytes, and what the statements share, come to. -/
import Derived.Test.YtjpnjbpbajaloaaPAllx7
import Derived.Test.YtjpnjbpbajaloaaPAllx6
import Derived.Test.YtjpnjbpbajaloaaPAllx4
import Derived.Test.YtjpnjbpbajaloaaQFeed
namespace Go.Proofs.Ytjpnjbpbajaloaa.Q
open Go.RowKit Go.Proofs.Ytjpnjbpbajaloaa.PAll Go.Proofs.YtjpnjbpbajaloaaW.PrintWords Go.Proofs.YtjpnjbpbajaloaaW.PrintLast Go.Proofs.YtjpnjbpbajaloaaW.PrintMore Go.Proofs.YtjpnjbpbajaloaaU
set_option linter.unusedVariables false
theorem eqb_l0 (a b : List Int) (hl : a.length = b.length) (hm : a.length < 140737488355328) : ∀ (d j : Nat), j + d = a.length → ∀ k, d < k → gangwayref0_EqBytes.l0 k a b (j : Int) = some (decide (a.drop j = b.drop j)) := by
  intro d
  induction d with
  | zero =>
    intro j hj k hk
    obtain ⟨k, rfl⟩ : ∃ m, k = m + 1 := ⟨k - 1, by omega⟩
    simp only [gangwayref0_EqBytes.l0]
    rw [if_neg (by omega), List.drop_of_length_le (by omega), List.drop_of_length_le (by omega)]
    rfl
  | succ d ih =>
    intro j hj k hk
    obtain ⟨k, rfl⟩ : ∃ m, k = m + 1 := ⟨k - 1, by omega⟩
    have e3 : wrap64 ((j : Int) + 1) = ((j + 1 : Nat) : Int) := by rw [w64 (by omega) (by omega)]; omega
    simp only [gangwayref0_EqBytes.l0]
    rw [if_pos (by omega), if_pos (by omega), if_pos (by omega), rd_nat, rd_nat, e3]
    have hs := beq_cons_take (a := a) (b := b) (i := j) (by omega) (by omega)
    by_cases h : a.getD j 0 = b.getD j 0
    · rw [if_pos h, ih (j + 1) (by omega) k (by omega)]
      simp only [hs, h, true_and]
    · rw [if_neg h]
      simp only [hs, h, false_and, decide_false]
theorem eqb_self (a : List Int) (hm : a.length < 140737488355328) : Ev (fun k => gangwayref0_EqBytes.f k a a) true := by
  refine Ev.big (a.length + 1) fun k hk => ?_
  unfold gangwayref0_EqBytes.f
  rw [if_pos rfl]
  have e := eqb_l0 a a rfl hm a.length 0 (by omega) k (by omega)
  rw [decide_eq_true rfl] at e
  exact e
theorem within_eq (a n : Int) (h0 : 0 < n) (h1 : n ≤ 1000000) : gangwaylaw0_Within.f a n = some ((a % 18446744073709551616) % n) := by
  unfold gangwaylaw0_Within.f
  rw [wu64 n, Int.emod_eq_of_lt (by omega) (by omega), if_neg (by omega), wu64]
  have h2 : 0 ≤ a % 18446744073709551616 := by omega
  rw [Int.tmod_eq_emod_of_nonneg h2]
  have h3 := Int.emod_nonneg (a % 18446744073709551616) (show n ≠ 0 by omega)
  have h4 := Int.emod_lt_of_pos (a % 18446744073709551616) h0
  rw [w64 (by omega) (by omega)]
theorem left_eq (c r s : List Int) : feed_Feed_Left.f c r s = some ((s.length : Int), c, r, s) := rfl
/-- The first q of bytes, with noughts behind them. -/
def pad (r : List Int) (q : Nat) : List Int := r.take q ++ List.replicate (q - r.length) 0
theorem pad_length (r : List Int) (q : Nat) : (pad r q).length = q := by
  unfold pad
  rw [List.length_append, List.length_take, List.length_replicate]
  omega
theorem pad_getD (r : List Int) (q j : Nat) (h : j < q) : (pad r q).getD j 0 = if j < r.length then r.getD j 0 else 0 := by
  unfold pad
  rw [List.getD_eq_getElem?_getD]
  by_cases hj : j < r.length
  · rw [if_pos hj, List.getElem?_append_left (by rw [List.length_take]; omega), List.getElem?_take, if_pos h, List.getD_eq_getElem?_getD]
  · rw [if_neg hj, List.getElem?_append_right (by rw [List.length_take]; omega), List.length_take, List.getElem?_replicate]
    split <;> rfl
theorem pad_add (r : List Int) (q n : Nat) : pad r q ++ pad (r.drop q) n = pad r (q + n) := by
  unfold pad
  rw [List.length_drop]
  rcases Nat.le_total q r.length with h | h
  · rw [show q - r.length = 0 by omega, List.replicate_zero, List.append_nil, ← List.append_assoc, ← List.take_add, show n - (r.length - q) = q + n - r.length by omega]
  · rw [List.drop_of_length_le h, List.take_nil, List.nil_append, List.append_assoc, List.replicate_append_replicate, List.take_of_length_le h, List.take_of_length_le (by omega)]
    congr 2
    omega
theorem stdin_ok (c r s : List Int) {n : Int} (h : 0 ≤ n ∧ n ≤ 1048576) : feed_Feed_Stdin.f c r s n = some (s.take n.toNat, 0, c, r, s.drop n.toNat) := by
  unfold feed_Feed_Stdin.f
  rw [if_pos h]
  congr 5
  rcases Nat.le_total n.toNat s.length with h1 | h1
  · rw [Nat.min_eq_left h1]
  · rw [Nat.min_eq_right h1, List.drop_of_length_le (Nat.le_refl _), List.drop_of_length_le h1]
theorem stdin_no (c r s : List Int) {n : Int} (h : ¬ (0 ≤ n ∧ n ≤ 1048576)) : feed_Feed_Stdin.f c r s n = some ([], 100, c, r, s) := if_neg h
theorem random_ok (c r s : List Int) {n : Int} (h : 0 ≤ n ∧ n ≤ 1048576) : feed_Feed_Random.f c r s n = some (pad r n.toNat, 0, c, r.drop n.toNat, s) := by
  unfold feed_Feed_Random.f
  rw [if_pos h]
  congr 5
  rcases Nat.le_total n.toNat r.length with h1 | h1
  · rw [Nat.min_eq_left h1]
  · rw [Nat.min_eq_right h1, List.drop_of_length_le (Nat.le_refl _), List.drop_of_length_le h1]
theorem random_no (c r s : List Int) {n : Int} (h : ¬ (0 ≤ n ∧ n ≤ 1048576)) : feed_Feed_Random.f c r s n = some ([], 100, c, r, s) := if_neg h
end Go.Proofs.Ytjpnjbpbajaloaa.Q
