/- What the reference's memory, and what the statements share, come to. -/
import Derived.Test.YtjmajhalgdeicaaPAllx5
import Derived.Test.YtjmajhalgdeicaaPAllx6
import Derived.Test.YtjmajhalgdeicaaQMem
import Derived.Test.YtjmajhalgdeicaaEvs
namespace Go.Proofs.Ytjmajhalgdeicaa.Q
open Go.RowKit Go.Proofs.Ytjmajhalgdeicaa.PAll Go.Proofs.YtjmajhalgdeicaaW.PrintWords Go.Proofs.YtjmajhalgdeicaaW.PrintLast Go.Proofs.YtjmajhalgdeicaaW.PrintMore Go.Proofs.YtjmajhalgdeicaaU
set_option linter.unusedVariables false

theorem has_eq {l : List Int} (s a n : Int) (hl : l.length ≤ 9223372036854775807) : gangwayref9_Mem_Has.f l s a n = some (decide (0 ≤ a ∧ 0 ≤ n ∧ a + n ≤ (l.length : Int)), l, s) := by
  unfold gangwayref9_Mem_Has.f
  by_cases h1 : a ≥ 0
  · rw [if_pos h1]
    by_cases h2 : n ≥ 0
    · rw [if_pos h2]
      by_cases h3 : n ≤ (l.length : Int)
      · rw [if_pos h3, w64 (by omega) (by omega)]
        congr 2
        simp only [decide_eq_decide]
        omega
      · rw [if_neg h3]
        congr 2
        simp
        omega
    · rw [if_neg h2]
      congr 2
      simp
      omega
  · rw [if_neg h1]
    congr 2
    simp
    omega
theorem rgrow_eq (l : List Int) (s n : Int) : gangwayref9_Mem_Grow.f l s n = mem_Memory_Grow.f l s n := rfl
theorem rsize_eq (l : List Int) (s : Int) : gangwayref9_Mem_Size.f l s = mem_Memory_Size.f l s := rfl
theorem or64c {x y : Int} (h0 : 0 ≤ x) (h1 : x < 256) (hy : 0 ≤ y) (h2 : y * 256 < 18446744073709551616) : Go.bits .or .u64 (y * 256) x = x + y * 256 := by
  have e : Go.bits .or .u64 (y * 256) x = Go.bits .or .u64 x (y * 256) := by rw [bits_or64, bits_or64, Nat.or_comm]
  rw [e, or64 (p := 8) (by omega) h0 (by have : (2 : Int) ^ 8 = 256 := by decide
                                         omega) (by omega) h2 (by have : (2 : Int) ^ 8 = 256 := by decide
                                                                  rw [this]; exact Int.mul_emod_left _ _)]
theorem num_cons_drop (l : List Int) (j : Nat) (h : j < l.length) : num (l.drop j) = l.getD j 0 + 256 * num (l.drop (j + 1)) := by
  rw [List.drop_eq_getElem_cons h, num, List.getD_eq_getElem?_getD, List.getElem?_eq_getElem h]
  rfl
/-- The reference reads from the highest byte down. -/
theorem rload_l0 (l : List Int) (s a : Int) (n : Nat) (hB : Byt l) (hl : l.length < 140737488355328) (h0 : 0 ≤ a) (h8 : n ≤ 8) (hin : a + (n : Int) ≤ (l.length : Int)) : ∀ (j : Nat), j ≤ n → ∀ k, j < k →
    gangwayref9_Mem_Load.l0 k a (num (((l.take (a + (n : Int)).toNat).drop a.toNat).drop j)) ((j : Int) - 1) l s = some (num ((l.take (a + (n : Int)).toNat).drop a.toNat), true, l, s) := by
  intro j
  induction j with
  | zero =>
    intro _ k hk
    obtain ⟨k, rfl⟩ : ∃ m, k = m + 1 := ⟨k - 1, by omega⟩
    simp only [gangwayref9_Mem_Load.l0]
    rw [if_neg (by omega), List.drop_zero]
  | succ j ih =>
    intro hj k hk
    obtain ⟨k, rfl⟩ : ∃ m, k = m + 1 := ⟨k - 1, by omega⟩
    have hsl : ((l.take (a + (n : Int)).toNat).drop a.toNat).length = n := by rw [List.length_drop, List.length_take]; omega
    have hsb : Byt ((l.take (a + (n : Int)).toNat).drop a.toNat) := (hB.take _).drop _
    have hrd : rd l (a + (j : Int)) = ((l.take (a + (n : Int)).toNat).drop a.toNat).getD j 0 := by
      unfold rd
      rw [List.getD_eq_getElem?_getD, List.getD_eq_getElem?_getD, List.getElem?_drop, List.getElem?_take, if_pos (by omega)]
      congr 2
      omega
    generalize hS : (l.take (a + (n : Int)).toNat).drop a.toNat = S at *
    have hb := hsb.getD j
    have hn := num_bd (S.drop (j + 1)) (hsb.drop _)
    rw [List.length_drop, hsl] at hn
    have hp : (2 : Int) ^ (8 * (n - (j + 1))) ≤ 72057594037927936 := by
      have : n - (j + 1) ≤ 7 := by omega
      generalize n - (j + 1) = q at *
      have : q = 0 ∨ q = 1 ∨ q = 2 ∨ q = 3 ∨ q = 4 ∨ q = 5 ∨ q = 6 ∨ q = 7 := by omega
      rcases this with rfl | rfl | rfl | rfl | rfl | rfl | rfl | rfl <;> decide
    simp only [gangwayref9_Mem_Load.l0]
    rw [show (((j + 1 : Nat) : Int) - 1) = (j : Int) by omega, if_pos (by omega), w64 (x := a + (j : Int)) (by omega) (by omega), if_pos (by omega), if_pos (by omega), hrd]
    generalize hc : S.getD j 0 = c at *
    generalize hv : num (S.drop (j + 1)) = v at *
    rw [wu64 (v * 256), Int.emod_eq_of_lt (by omega) (by omega), wu64 c, Int.emod_eq_of_lt (by omega) (by omega), or64c hb.1 hb.2 hn.1 (by omega), w64 (by omega) (by omega)]
    have e := num_cons_drop S j (by omega)
    rw [hc, hv] at e
    rw [show c + v * 256 = c + 256 * v by omega, ← e]
    exact ih (by omega) k (by omega)
theorem rload_ok {l : List Int} (s : Int) {a b n : Int} (hB : Byt l) (hl : l.length < 140737488355328) (h : Fm a b n) (hin : a + b + n ≤ (l.length : Int)) : Ev (fun k => gangwayref9_Mem_Load.f k l s (a + b) n) (num (sub l a b n), true, l, s) := by
  have h8 := form_n h
  refine Ev.big (n.toNat + 1) fun k hk => ?_
  unfold gangwayref9_Mem_Load.f
  rw [has_eq s _ _ (by omega), decide_eq_true (by omega)]
  have e := rload_l0 l s (a + b) n.toNat hB hl (by omega) (by omega) (by omega) n.toNat (by omega) k (by omega)
  rw [List.drop_of_length_le (by rw [List.length_drop, List.length_take]; omega), show ((n.toNat : Int)) = n by omega] at e
  refine bs rfl (ip rfl ?_)
  rw [w64 (by omega) (by omega)]
  exact e
theorem rload_no {l : List Int} (s : Int) {a n : Int} (hl : l.length < 140737488355328) (h : ¬ (0 ≤ a ∧ 0 ≤ n ∧ a + n ≤ (l.length : Int))) : Ev (fun k => gangwayref9_Mem_Load.f k l s a n) (0, false, l, s) := by
  refine Ev.big 0 fun k _ => ?_
  unfold gangwayref9_Mem_Load.f
  rw [has_eq s _ _ (by omega), decide_eq_false h]
  exact bs rfl (ineg Bool.false_ne_true rfl)
theorem rstore_l0 (l : List Int) (s a v : Int) (n : Nat) (hl : l.length < 140737488355328) (h0 : 0 ≤ a) (h8 : n ≤ 8) (hin : a + (n : Int) ≤ (l.length : Int)) : ∀ (d j : Nat), j + d = n → ∀ k, d < k →
    gangwayref9_Mem_Store.l0 k a (n : Int) v (j : Int) (splice l a.toNat (le v j)) s = some (true, splice l a.toNat (le v n), s) := by
  intro d
  induction d with
  | zero =>
    intro j hj k hk
    obtain ⟨k, rfl⟩ : ∃ m, k = m + 1 := ⟨k - 1, by omega⟩
    simp only [gangwayref9_Mem_Store.l0]
    rw [if_neg (by omega), show j = n by omega]
  | succ d ih =>
    intro j hj k hk
    obtain ⟨k, rfl⟩ : ∃ m, k = m + 1 := ⟨k - 1, by omega⟩
    have hlj : (splice l a.toNat (le v j)).length = l.length := splice_length (by rw [le_length]; omega)
    simp only [gangwayref9_Mem_Store.l0]
    rw [if_pos (by omega), w64 (x := 8 * (j : Int)) (by omega) (by omega), if_pos (by omega), w64 (x := a + (j : Int)) (by omega) (by omega), if_pos (by omega), if_pos (by rw [hlj]; omega),
      show (8 * (j : Int)) = ((8 * j : Nat) : Int) by omega, shr64 .u64 (.inr rfl) v (8 * j) (by omega), show (a + (j : Int)).toNat = a.toNat + (le v j).length by rw [le_length]; omega, splice_set _ (by rw [le_length]; omega), ← le_succ,
      w64 (x := (j : Int) + 1) (by omega) (by omega), show (j : Int) + 1 = ((j + 1 : Nat) : Int) by omega]
    exact ih (j + 1) (by omega) k (by omega)
theorem rstore_ok {l : List Int} (s : Int) {a b n : Int} (v : Int) (hl : l.length < 140737488355328) (h : Fm a b n) (hin : a + b + n ≤ (l.length : Int)) : Ev (fun k => gangwayref9_Mem_Store.f k l s (a + b) n v) (true, splice l (a + b).toNat (le v n.toNat), s) := by
  have h8 := form_n h
  refine Ev.big (n.toNat + 1) fun k hk => ?_
  unfold gangwayref9_Mem_Store.f
  rw [has_eq s _ _ (by omega), decide_eq_true (by omega)]
  have e := rstore_l0 l s (a + b) v n.toNat hl (by omega) (by omega) (by omega) n.toNat 0 (by omega) k (by omega)
  rw [le_zero, splice_nil, show ((n.toNat : Int)) = n by omega] at e
  exact bs rfl (ip rfl e)
theorem rstore_no {l : List Int} (s : Int) {a n : Int} (v : Int) (hl : l.length < 140737488355328) (h : ¬ (0 ≤ a ∧ 0 ≤ n ∧ a + n ≤ (l.length : Int))) : Ev (fun k => gangwayref9_Mem_Store.f k l s a n v) (false, l, s) := by
  refine Ev.big 0 fun k _ => ?_
  unfold gangwayref9_Mem_Store.f
  rw [has_eq s _ _ (by omega), decide_eq_false h]
  exact bs rfl (ineg Bool.false_ne_true rfl)
theorem eqb_l0 (a b : List Int) (hl : a.length = b.length) (hm : a.length < 140737488355328) : ∀ (d j : Nat), j + d = a.length → ∀ k, d < k → gangwayref0_EqBytes.l0 k a b (j : Int) = some (decide (a.drop j = b.drop j)) := by
  intro d
  induction d with
  | zero =>
    intro j hj k hk
    obtain ⟨k, rfl⟩ : ∃ m, k = m + 1 := ⟨k - 1, by omega⟩
    simp only [gangwayref0_EqBytes.l0]
    rw [if_neg (by omega), List.drop_of_length_le (by omega), List.drop_of_length_le (by omega)]
    rfl
  | succ d ih =>
    intro j hj k hk
    obtain ⟨k, rfl⟩ : ∃ m, k = m + 1 := ⟨k - 1, by omega⟩
    have e3 : wrap64 ((j : Int) + 1) = ((j + 1 : Nat) : Int) := by rw [w64 (by omega) (by omega)]; omega
    simp only [gangwayref0_EqBytes.l0]
    rw [if_pos (by omega), if_pos (by omega), if_pos (by omega), rd_nat, rd_nat, e3]
    have hs := beq_cons_take (a := a) (b := b) (i := j) (by omega) (by omega)
    by_cases h : a.getD j 0 = b.getD j 0
    · rw [if_pos h, ih (j + 1) (by omega) k (by omega)]
      simp only [hs, h, true_and]
    · rw [if_neg h]
      simp only [hs, h, false_and, decide_false]
theorem eqb_self (a : List Int) (hm : a.length < 140737488355328) : Ev (fun k => gangwayref0_EqBytes.f k a a) true := by
  refine Ev.big (a.length + 1) fun k hk => ?_
  unfold gangwayref0_EqBytes.f
  rw [if_pos rfl]
  have e := eqb_l0 a a rfl hm a.length 0 (by omega) k (by omega)
  rw [decide_eq_true rfl] at e
  exact e
theorem copy_l0 (a : List Int) (hm : a.length < 140737488355328) : ∀ (d j : Nat), j + d = a.length → ∀ k, d < k → gangwayref0_CopyBytes.l0 k a (a.take j) (j : Int) = some a := by
  intro d
  induction d with
  | zero =>
    intro j hj k hk
    obtain ⟨k, rfl⟩ : ∃ m, k = m + 1 := ⟨k - 1, by omega⟩
    simp only [gangwayref0_CopyBytes.l0]
    rw [if_neg (by omega), List.take_of_length_le (by omega)]
  | succ d ih =>
    intro j hj k hk
    obtain ⟨k, rfl⟩ : ∃ m, k = m + 1 := ⟨k - 1, by omega⟩
    have e3 : wrap64 ((j : Int) + 1) = ((j + 1 : Nat) : Int) := by rw [w64 (by omega) (by omega)]; omega
    have et : a.take j ++ [a.getD j 0] = a.take (j + 1) := by
      rw [List.take_succ_eq_append_getElem (by omega), List.getD_eq_getElem?_getD, List.getElem?_eq_getElem (by omega)]
      rfl
    simp only [gangwayref0_CopyBytes.l0]
    rw [if_pos (by omega), if_pos (by omega), if_pos (by rw [List.length_take]; omega), rd_nat, e3, et]
    exact ih (j + 1) (by omega) k (by omega)
theorem copy_ev (a : List Int) (hm : a.length < 140737488355328) : Ev (fun k => gangwayref0_CopyBytes.f k a) a :=
  Ev.big (a.length + 1) fun k hk => copy_l0 a hm a.length 0 (by omega) k (by omega)
theorem bytes_l0 : ∀ (d : Nat) (a : List Int) (j : Nat), a.length < 140737488355328 → j + d = a.length → ∀ k, d < k → gangwaylaw0_Bytes.l0 k a (j : Int) = some () := by
  intro d
  induction d with
  | zero =>
    intro a j hm hj k hk
    obtain ⟨k, rfl⟩ : ∃ m, k = m + 1 := ⟨k - 1, by omega⟩
    simp only [gangwaylaw0_Bytes.l0]
    rw [if_neg (by omega), if_pos hm]
  | succ d ih =>
    intro a j hm hj k hk
    obtain ⟨k, rfl⟩ : ∃ m, k = m + 1 := ⟨k - 1, by omega⟩
    have e3 : wrap64 ((j : Int) + 1) = ((j + 1 : Nat) : Int) := by rw [w64 (by omega) (by omega)]; omega
    simp only [gangwaylaw0_Bytes.l0]
    rw [if_pos (by omega), if_pos (by omega), e3]
    exact ih _ (j + 1) (by rw [List.length_set]; exact hm) (by rw [List.length_set]; omega) k (by omega)
theorem bytes_ev (a : List Int) (hm : a.length < 140737488355328) : Ev (fun k => gangwaylaw0_Bytes.f k a) () :=
  Ev.big (a.length + 1) fun k hk => bytes_l0 a.length a 0 hm (by omega) k (by omega)
theorem within_eq (a n : Int) (h0 : 0 < n) (h1 : n ≤ 1000000) : gangwaylaw0_Within.f a n = some ((a % 18446744073709551616) % n) := by
  unfold gangwaylaw0_Within.f
  rw [wu64 n, Int.emod_eq_of_lt (by omega) (by omega), if_neg (by omega), wu64]
  have h2 : 0 ≤ a % 18446744073709551616 := by omega
  rw [Int.tmod_eq_emod_of_nonneg h2]
  have h3 := Int.emod_nonneg (a % 18446744073709551616) (show n ≠ 0 by omega)
  have h4 := Int.emod_lt_of_pos (a % 18446744073709551616) h0
  rw [w64 (by omega) (by omega)]
end Go.Proofs.Ytjmajhalgdeicaa.Q
