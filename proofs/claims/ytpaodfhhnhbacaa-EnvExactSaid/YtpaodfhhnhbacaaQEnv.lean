/- What the calls on texts come to. -/
import Derived.Test.YtpaodfhhnhbacaaPAllx1
import Derived.Test.YtpaodfhhnhbacaaQMemE
import Derived.Test.YtpaodfhhnhbacaaEvs
namespace Go.Proofs.Ytpaodfhhnhbacaa.Q
open Go.RowKit Go.Proofs.Ytpaodfhhnhbacaa.PAll Go.Proofs.YtpaodfhhnhbacaaW.PrintWords Go.Proofs.YtpaodfhhnhbacaaW.PrintLast Go.Proofs.YtpaodfhhnhbacaaW.PrintMore Go.Proofs.YtpaodfhhnhbacaaU
set_option linter.unusedVariables false
/-- The bytes of texts, with a 0 behind each. -/
def tot : List ByteArray → Nat
  | [] => 0
  | s :: r => s.size + 1 + tot r
/-- No text has a 0 in it, and no beginning is too long, n bytes being ahead. -/
def okL (n : Nat) : List ByteArray → Bool
  | [] => true
  | s :: r => decide (Lib.indexByte s.data.toList 0 < 0) && decide (n + s.size ≤ 4096) && okL (n + s.size) r

theorem okL_tot : ∀ (l : List ByteArray) (n : Nat), okL n l = true → n ≤ 4096 → n + tot l ≤ 4096 + l.length
  | [], n, _, h => by simp [tot]; omega
  | s :: r, n, h, hn => by
    simp only [okL, Bool.and_eq_true, decide_eq_true_eq] at h
    have := okL_tot r (n + s.size) h.2 h.1.2
    simp only [tot, List.length_cons]
    omega
theorem okL_bad (z : ByteArray) (hz : ¬ Lib.indexByte z.data.toList 0 < 0) : ∀ (l : List ByteArray) (n : Nat), okL n (l ++ [z]) = false
  | [], n => by simp [okL, hz]
  | s :: r, n => by
    simp only [List.cons_append, okL, okL_bad z hz r, Bool.and_false]

theorem rd_at (l : List ByteArray) (i : Nat) (h : i < l.length) : rdOf ByteArray.empty l (i : Int) = l[i] := by
  unfold rdOf
  rw [Int.toNat_natCast, List.getD_eq_getElem?_getD, List.getElem?_eq_getElem h]
  rfl

theorem check_l0 (l : List ByteArray) (hl : l.length ≤ 9223372036854775806) (hs : ∀ s ∈ l, s.size ≤ 140737488351232) : ∀ (d i n : Nat), i + d = l.length → n ≤ 4096 → ∀ k, d < k →
    env_Check.l0 k l (n : Int) l (l.length : Int) (i : Int) = some (if okL n (l.drop i) && decide (l.length ≤ 64) then 0 else 100) := by
  intro d
  induction d with
  | zero =>
    intro i n hi hn k hk
    obtain ⟨k, rfl⟩ : ∃ m, k = m + 1 := ⟨k - 1, by omega⟩
    simp only [env_Check.l0]
    rw [if_neg (by omega), List.drop_of_length_le (by omega)]
    by_cases h : l.length ≤ 64
    · rw [if_neg (by omega), if_pos (by simp [okL, h])]
    · rw [if_pos (by omega), if_neg (by simp [okL, h])]
  | succ d ih =>
    intro i n hi hn k hk
    obtain ⟨k, rfl⟩ : ∃ m, k = m + 1 := ⟨k - 1, by omega⟩
    have hi2 : i < l.length := by omega
    have hb := hs l[i] (List.getElem_mem hi2)
    simp only [env_Check.l0, strings_IndexByte.f]
    rw [if_pos (by omega), if_pos (by omega), if_pos (by omega), rd_at l i hi2, Option.bind_some, List.drop_eq_getElem_cons hi2, w64 (x := (n : Int) + (l[i].size : Int)) (by omega) (by omega), w64 (x := (i : Int) + 1) (by omega) (by omega)]
    rw [show ((0 : Int).toNat.toUInt8) = 0 from rfl]
    by_cases h1 : Lib.indexByte l[i].data.toList 0 ≥ 0
    · rw [if_pos h1]
      have e : okL n (l[i] :: l.drop (i + 1)) = false := by
        have e1 : decide (Lib.indexByte l[i].data.toList 0 < 0) = false := decide_eq_false (by omega)
        unfold okL
        rw [e1, Bool.false_and, Bool.false_and]
      rw [e]
      rfl
    · rw [if_neg h1]
      have e1 : decide (Lib.indexByte l[i].data.toList 0 < 0) = true := decide_eq_true (by omega)
      by_cases h2 : n + l[i].size ≤ 4096
      · rw [if_neg (by omega)]
        have := ih (i + 1) (n + l[i].size) (by omega) h2 k (by omega)
        rw [show (((n + l[i].size : Nat) : Int)) = (n : Int) + (l[i].size : Int) by omega, show (((i + 1 : Nat) : Int)) = (i : Int) + 1 by omega] at this
        rw [this]
        have e : okL n (l[i] :: l.drop (i + 1)) = okL (n + l[i].size) (l.drop (i + 1)) := by
          rw [okL, e1, decide_eq_true h2, Bool.true_and, Bool.true_and]
        rw [e]
      · rw [if_pos (by omega)]
        have e : okL n (l[i] :: l.drop (i + 1)) = false := by
          rw [okL, decide_eq_false h2, Bool.and_false, Bool.false_and]
        rw [e]
        rfl

theorem check_ev (l : List ByteArray) (hl : l.length ≤ 9223372036854775806) (hs : ∀ s ∈ l, s.size ≤ 140737488351232) (k : Nat) (hk : l.length < k) :
    env_Check.f k l = some (if okL 0 l && decide (l.length ≤ 64) then 0 else 100) := by
  have := check_l0 l hl hs l.length 0 0 (by omega) (by omega) k hk
  rwa [List.drop_zero] at this

theorem tot_drop (l : List ByteArray) (i : Nat) (h : i < l.length) : tot (l.drop i) = l[i].size + 1 + tot (l.drop (i + 1)) := by
  rw [List.drop_eq_getElem_cons h]
  rfl
theorem tot_drop_le (l : List ByteArray) : ∀ i : Nat, tot (l.drop i) ≤ tot l
  | 0 => by simp
  | i + 1 => by
    have := tot_drop_le l i
    by_cases h : i < l.length
    · rw [tot_drop l i h] at this
      omega
    · rw [List.drop_of_length_le (by omega)]
      simp [tot]

theorem sizes_l0 (l : List ByteArray) (hl : l.length ≤ 9223372036854775806) (ht : tot l ≤ 10000) : ∀ (d i s : Nat), i + d = l.length → s + tot (l.drop i) = tot l → ∀ k, d < k →
    env_Sizes.l0 k l (s : Int) l (l.length : Int) (i : Int) = some ((l.length : Int), (tot l : Int), 0) := by
  intro d
  induction d with
  | zero =>
    intro i s hi hs k hk
    obtain ⟨k, rfl⟩ : ∃ m, k = m + 1 := ⟨k - 1, by omega⟩
    simp only [env_Sizes.l0]
    rw [List.drop_of_length_le (by omega)] at hs
    simp only [tot, Nat.add_zero] at hs
    rw [if_neg (by omega), hs]
  | succ d ih =>
    intro i s hi hs k hk
    obtain ⟨k, rfl⟩ : ∃ m, k = m + 1 := ⟨k - 1, by omega⟩
    have hi2 : i < l.length := by omega
    rw [tot_drop l i hi2] at hs
    simp only [env_Sizes.l0]
    rw [if_pos (by omega), if_pos (by omega), if_pos (by omega), rd_at l i hi2, w64 (x := (l[i].size : Int) + 1) (by omega) (by omega), w64 (x := (s : Int) + ((l[i].size : Int) + 1)) (by omega) (by omega), w64 (x := (i : Int) + 1) (by omega) (by omega)]
    have := ih (i + 1) (s + (l[i].size + 1)) (by omega) (by omega) k (by omega)
    rw [show (((s + (l[i].size + 1) : Nat) : Int)) = (s : Int) + ((l[i].size : Int) + 1) by omega, show (((i + 1 : Nat) : Int)) = (i : Int) + 1 by omega] at this
    exact this

theorem sizes_ev (l : List ByteArray) (hl : l.length ≤ 9223372036854775806) (hs : ∀ s ∈ l, s.size ≤ 140737488351232) (k : Nat) (hk : l.length < k) :
    env_Sizes.f k l = some (if okL 0 l && decide (l.length ≤ 64) then ((l.length : Int), (tot l : Int), 0) else (0, 0, 100)) := by
  unfold env_Sizes.f
  rw [check_ev l hl hs k hk, Option.bind_some]
  by_cases h : (okL 0 l && decide (l.length ≤ 64)) = true
  · simp only [h, if_true]
    have h2 : okL 0 l = true ∧ l.length ≤ 64 := by simpa using h
    have h3 := okL_tot l 0 h2.1 (by omega)
    have := sizes_l0 l hl (by omega) l.length 0 0 (by omega) (by simp) k hk
    exact this
  · simp only [h, if_false, Bool.false_eq_true]
    rw [if_neg (by omega)]

theorem copy_l0 (l : List ByteArray) (hl : l.length < 8796093022208) : ∀ (d i : Nat), i + d = l.length → ∀ k, d < k → gangwayref0_CopyStrings.l0 k l (l.take i) (i : Int) = some l := by
  intro d
  induction d with
  | zero =>
    intro i hi k hk
    obtain ⟨k, rfl⟩ : ∃ m, k = m + 1 := ⟨k - 1, by omega⟩
    simp only [gangwayref0_CopyStrings.l0]
    rw [if_neg (by omega), List.take_of_length_le (by omega)]
  | succ d ih =>
    intro i hi k hk
    obtain ⟨k, rfl⟩ : ∃ m, k = m + 1 := ⟨k - 1, by omega⟩
    have hi2 : i < l.length := by omega
    simp only [gangwayref0_CopyStrings.l0]
    rw [if_pos (by omega), if_pos (by omega), if_pos (by simp; omega), rd_at l i hi2, w64 (by omega) (by omega), ← List.take_succ_eq_append_getElem hi2]
    exact ih (i + 1) (by omega) k (by omega)
theorem copy_ev (l : List ByteArray) (hl : l.length < 8796093022208) (k : Nat) (hk : l.length < k) : gangwayref0_CopyStrings.f k l = some l := by
  have := copy_l0 l hl l.length 0 (by omega) k hk
  exact this

theorem heavy_l0 (l : List ByteArray) (a b : Int) : ∀ (d i : Nat), i + d = 200 → ∀ (n : Int) (k : Nat), d < k → ∃ r, gangwaylaw22_heavy.l0 k n (i : Int) l a b = some r := by
  intro d
  induction d with
  | zero =>
    intro i hi n k hk
    obtain ⟨k, rfl⟩ : ∃ m, k = m + 1 := ⟨k - 1, by omega⟩
    simp only [gangwaylaw22_heavy.l0]
    by_cases h : (i : Int) < (l.length : Int)
    · rw [if_pos h, if_neg (by omega)]
      split <;> exact ⟨_, rfl⟩
    · rw [if_neg h]
      split <;> exact ⟨_, rfl⟩
  | succ d ih =>
    intro i hi n k hk
    obtain ⟨k, rfl⟩ : ∃ m, k = m + 1 := ⟨k - 1, by omega⟩
    simp only [gangwaylaw22_heavy.l0]
    by_cases h : (i : Int) < (l.length : Int)
    · rw [if_pos h, if_pos (by omega), if_pos (by omega), w64 (x := (i : Int) + 1) (by omega) (by omega)]
      exact ih (i + 1) (by omega) _ k (by omega)
    · rw [if_neg h]
      split <;> exact ⟨_, rfl⟩
theorem heavy_ev (l : List ByteArray) (a b : Int) (k : Nat) (hk : 200 < k) : ∃ r, gangwaylaw22_heavy.f k l a b = some r := heavy_l0 l a b 200 0 (by omega) 0 k hk

theorem wakes_ev (k : Nat) (hk : 3 ≤ k) : gangwaylaw22_wakes.f k = some true := by
  unfold gangwaylaw22_wakes.f gangwaylaw22_num.f
  rw [sizes_ev _ (by decide) (by decide) k (by simp; omega), Option.bind_some]
  decide

end Go.Proofs.Ytpaodfhhnhbacaa.Q
