/- What the writers of bytes of stat and of its reference come to: the lowest bytes of a number, laid at a place. -/
import Derived.Test.YthhmnecnoojcpaaPAllx2
import Derived.Test.YthhmnecnoojcpaaPAllx3
import Derived.Test.YthhmnecnoojcpaaPur
namespace Go.Proofs.Ythhmnecnoojcpaa.Q
open Go.RowKit Go.Proofs.Ythhmnecnoojcpaa.PAll Go.Proofs.YthhmnecnoojcpaaW.PrintWords Go.Proofs.YthhmnecnoojcpaaW.PrintLast Go.Proofs.YthhmnecnoojcpaaW.PrintMore Go.Proofs.YthhmnecnoojcpaaU
set_option linter.unusedVariables false

theorem fresh_eq (n : Nat) (h : n ≤ 281474976710656) : stat_fresh.f (n : Int) = some (List.replicate n 0) := by
  unfold stat_fresh.f
  rw [if_pos (by omega), if_pos (by omega)]
  rfl

theorem set_l0 (b : List Int) (i : Nat) (v : Int) (n : Nat) (hn : n ≤ 8) (hb : i + n ≤ b.length) (hm : b.length < 140737488355328) : ∀ (d j : Nat), j + d = n → ∀ k, d < k →
    stat_field_set.l0 k (i : Int) v (n : Int) (j : Int) (splice b i (le v j)) = some (splice b i (le v n)) := by
  intro d
  induction d with
  | zero =>
    intro j hj k hk
    obtain ⟨k, rfl⟩ : ∃ m, k = m + 1 := ⟨k - 1, by omega⟩
    obtain rfl : j = n := by omega
    simp only [stat_field_set.l0]
    rw [if_neg (by omega)]
  | succ d ih =>
    intro j hj k hk
    obtain ⟨k, rfl⟩ : ∃ m, k = m + 1 := ⟨k - 1, by omega⟩
    have hl : (splice b i (le v j)).length = b.length := splice_length (by rw [le_length]; omega)
    have e1 : wrap64 (8 * (j : Int)) = ((8 * j : Nat) : Int) := by rw [w64 (by omega) (by omega)]; omega
    have e2 : wrap64 ((i : Int) + (j : Int)) = ((i + j : Nat) : Int) := by rw [w64 (by omega) (by omega)]; omega
    have e3 : wrap64 ((j : Int) + 1) = ((j + 1 : Nat) : Int) := by rw [w64 (by omega) (by omega)]; omega
    simp only [stat_field_set.l0]
    rw [if_pos (by omega), e1, e2, e3, hl, if_pos (by omega), if_pos (by omega), if_pos (by omega), shr64 .i64 (.inl rfl) v _ (by omega)]
    have e4 : (splice b i (le v j)).set (((i + j : Nat) : Int)).toNat (v / 2 ^ (8 * j) % 256) = splice b i (le v (j + 1)) := by
      have := splice_set (b := b) (i := i) (p := le v j) (v / 2 ^ (8 * j) % 256) (by rw [le_length]; omega)
      rw [le_length] at this
      rw [le_succ]
      exact this
    rw [e4]
    exact ih (j + 1) (by omega) k (by omega)

theorem set_ev (b : List Int) (i : Nat) (v : Int) (n : Nat) (hn : n ≤ 8) (hb : i + n ≤ b.length) (hm : b.length < 140737488355328) (k : Nat) (hk : 9 ≤ k) :
    stat_field_set.f k b (i : Int) (n : Int) v = some (splice b i (le v n)) := by
  have := set_l0 b i v n hn hb hm n 0 (by omega) k (by omega)
  rw [le_zero, splice_nil] at this
  exact this

theorem little_l0 (v : Int) (n : Nat) (hn : n ≤ 8) : ∀ (d j : Nat), j + d = n → ∀ k, d < k → gangwayref20_Little.l0 k v (n : Int) (le v j) (j : Int) = some (le v n) := by
  intro d
  induction d with
  | zero =>
    intro j hj k hk
    obtain ⟨k, rfl⟩ : ∃ m, k = m + 1 := ⟨k - 1, by omega⟩
    obtain rfl : j = n := by omega
    simp only [gangwayref20_Little.l0]
    rw [if_neg (by omega)]
  | succ d ih =>
    intro j hj k hk
    obtain ⟨k, rfl⟩ : ∃ m, k = m + 1 := ⟨k - 1, by omega⟩
    have e1 : wrap64 (8 * (j : Int)) = ((8 * j : Nat) : Int) := by rw [w64 (by omega) (by omega)]; omega
    have e3 : wrap64 ((j : Int) + 1) = ((j + 1 : Nat) : Int) := by rw [w64 (by omega) (by omega)]; omega
    simp only [gangwayref20_Little.l0]
    rw [if_pos (by omega), e1, e3, if_pos (by omega), if_pos (by rw [le_length]; omega), shr64 .u64 (.inr rfl) v _ (by omega), ← le_succ]
    exact ih (j + 1) (by omega) k (by omega)

theorem little_ev (v : Int) (n : Nat) (hn : n ≤ 8) (k : Nat) (hk : 9 ≤ k) : gangwayref20_Little.f k v (n : Int) = some (le v n) := by
  have := little_l0 v n hn n 0 (by omega) k (by omega)
  exact this

theorem put_l0 (b : List Int) (i : Nat) (p : List Int) (hb : i + p.length ≤ b.length) (hm : b.length < 140737488355328) : ∀ (d j : Nat), j + d = p.length → ∀ k, d < k →
    gangwayref20_put.l0 k (splice b i (p.take j)) (i : Int) p (j : Int) = some (splice b i p) := by
  intro d
  induction d with
  | zero =>
    intro j hj k hk
    obtain ⟨k, rfl⟩ : ∃ m, k = m + 1 := ⟨k - 1, by omega⟩
    simp only [gangwayref20_put.l0]
    rw [if_neg (by omega), List.take_of_length_le (by omega)]
  | succ d ih =>
    intro j hj k hk
    obtain ⟨k, rfl⟩ : ∃ m, k = m + 1 := ⟨k - 1, by omega⟩
    have ht : (p.take j).length = j := by simp; omega
    have hl : (splice b i (p.take j)).length = b.length := splice_length (by rw [ht]; omega)
    have e2 : wrap64 ((i : Int) + (j : Int)) = ((i + j : Nat) : Int) := by rw [w64 (by omega) (by omega)]; omega
    have e3 : wrap64 ((j : Int) + 1) = ((j + 1 : Nat) : Int) := by rw [w64 (by omega) (by omega)]; omega
    simp only [gangwayref20_put.l0]
    rw [if_pos (by omega), if_pos (by omega), e2, e3, hl, if_pos (by omega), if_pos (by omega)]
    have e4 : (splice b i (p.take j)).set (((i + j : Nat) : Int)).toNat (rd p (j : Int)) = splice b i (p.take (j + 1)) := by
      have := splice_set (b := b) (i := i) (p := p.take j) (rd p (j : Int)) (by rw [ht]; omega)
      rw [ht] at this
      have hr : rd p (j : Int) = p[j] := by rw [rd_nat, List.getD_eq_getElem?_getD, List.getElem?_eq_getElem (by omega)]; rfl
      rw [List.take_succ_eq_append_getElem (by omega), ← hr]
      exact this
    rw [e4]
    exact ih (j + 1) (by omega) k (by omega)

theorem put_ev (b : List Int) (i : Nat) (p : List Int) (hb : i + p.length ≤ b.length) (hm : b.length < 140737488355328) (k : Nat) (hk : p.length < k) :
    gangwayref20_put.f k b (i : Int) p = some (splice b i p) := by
  have := put_l0 b i p hb hm p.length 0 (by omega) k (by omega)
  rw [List.take_zero, splice_nil] at this
  exact this

theorem eqb_l0 (a b : List Int) (hl : a.length = b.length) (hm : a.length < 140737488355328) : ∀ (d j : Nat), j + d = a.length → ∀ k, d < k → gangwayref0_EqBytes.l0 k a b (j : Int) = some (decide (a.drop j = b.drop j)) := by
  intro d
  induction d with
  | zero =>
    intro j hj k hk
    obtain ⟨k, rfl⟩ : ∃ m, k = m + 1 := ⟨k - 1, by omega⟩
    simp only [gangwayref0_EqBytes.l0]
    rw [if_neg (by omega), List.drop_of_length_le (by omega), List.drop_of_length_le (by omega)]
    rfl
  | succ d ih =>
    intro j hj k hk
    obtain ⟨k, rfl⟩ : ∃ m, k = m + 1 := ⟨k - 1, by omega⟩
    have e3 : wrap64 ((j : Int) + 1) = ((j + 1 : Nat) : Int) := by rw [w64 (by omega) (by omega)]; omega
    simp only [gangwayref0_EqBytes.l0]
    rw [if_pos (by omega), if_pos (by omega), if_pos (by omega), rd_nat, rd_nat, e3]
    have hs := beq_cons_take (a := a) (b := b) (i := j) (by omega) (by omega)
    by_cases h : a.getD j 0 = b.getD j 0
    · rw [if_pos h, ih (j + 1) (by omega) k (by omega)]
      simp only [hs, h, true_and]
    · rw [if_neg h]
      simp only [hs, h, false_and, decide_false]

theorem eqb_ev (a b : List Int) (hm : a.length < 140737488355328) (k : Nat) (hk : a.length < k) : gangwayref0_EqBytes.f k a b = some (decide (a = b)) := by
  unfold gangwayref0_EqBytes.f
  by_cases h : a.length = b.length
  · rw [if_pos (by omega)]
    exact eqb_l0 a b h hm a.length 0 (by omega) k (by omega)
  · rw [if_neg (by omega)]
    have : a ≠ b := fun e => h (by rw [e])
    simp [this]

theorem wakes_ev (k : Nat) (hk : 9 ≤ k) : gangwaylaw20_wakes.f k = some true := by
  have h1 := fresh_eq 8 (by omega)
  have h2 := set_ev (List.replicate 8 0) 4 2 4 (by omega) (by simp) (by simp) k hk
  have h3 := eqb_ev (splice (List.replicate 8 0) 4 (le 2 4)) [0, 0, 0, 0, 2, 0, 0, 0] (by decide) k (by simp only [show (splice (List.replicate 8 0) 4 (le 2 4)).length = 8 from by decide]; omega)
  unfold gangwaylaw20_wakes.f stat_Prestat.f
  have e : ((⟨#[97, 98]⟩ : ByteArray).size : Int) = 2 := rfl
  have h1' : stat_fresh.f 8 = some (List.replicate 8 0) := h1
  have h2' : stat_field_set.f k (List.replicate 8 0) 4 4 2 = some (splice (List.replicate 8 0) 4 (le 2 4)) := h2
  rw [e, h1']
  simp only [Option.bind_some]
  rw [h2']
  simp only [Option.bind_some]
  rw [h3]
  decide

theorem is_ev (b w : List Int) (e : Int) (ok : Bool) (hb : b.length < 140737488355328) (k : Nat) (hk : b.length < k) (h : if ok then e = 0 ∧ b = w else e = 100 ∧ b = []) : gangwaylaw20_is.f k b e ok w = some true := by
  unfold gangwaylaw20_is.f gangwaylaw20_num.f
  cases ok with
  | false => obtain ⟨rfl, rfl⟩ := h; rfl
  | true =>
    obtain ⟨rfl, rfl⟩ := h
    rw [if_pos rfl, Option.bind_some, if_pos rfl, eqb_ev b b hb k hk]
    simp

end Go.Proofs.Ythhmnecnoojcpaa.Q
