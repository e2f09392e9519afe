/- How many any texts are, with their bytes and a 0 behind each; texts with a 0 in them, too many, or too long, are refused: for every list of asks. -/
import Derived.Test.YtpaodfhhnhbacaaPAllx2
import Derived.Test.YtpaodfhhnhbacaaPAllx1
import Derived.Test.YtpaodfhhnhbacaaPur
namespace Go.Proofs.Ytpaodfhhnhbacaa.Pure
open Go.RowKit Go.Proofs.Ytpaodfhhnhbacaa.PAll Go.Proofs.YtpaodfhhnhbacaaW.PrintWords Go.Proofs.YtpaodfhhnhbacaaW.PrintLast Go.Proofs.YtpaodfhhnhbacaaW.PrintMore Go.Proofs.YtpaodfhhnhbacaaU
set_option linter.unusedVariables false

/-- The bytes of texts, with a 0 behind each. -/
def tot : List ByteArray → Nat
  | [] => 0
  | s :: r => s.size + 1 + tot r
/-- No text has a 0 in it, and no beginning is too long, n bytes being ahead. -/
def okL (n : Nat) : List ByteArray → Bool
  | [] => true
  | s :: r => decide (Lib.indexByte s.data.toList 0 < 0) && decide (n + s.size ≤ 4096) && okL (n + s.size) r

theorem okL_tot : ∀ (l : List ByteArray) (n : Nat), okL n l = true → n ≤ 4096 → n + tot l ≤ 4096 + l.length
  | [], n, _, h => by simp [tot]; omega
  | s :: r, n, h, hn => by
    simp only [okL, Bool.and_eq_true, decide_eq_true_eq] at h
    have := okL_tot r (n + s.size) h.2 h.1.2
    simp only [tot, List.length_cons]
    omega
theorem okL_bad (z : ByteArray) (hz : ¬ Lib.indexByte z.data.toList 0 < 0) : ∀ (l : List ByteArray) (n : Nat), okL n (l ++ [z]) = false
  | [], n => by simp [okL, hz]
  | s :: r, n => by
    simp only [List.cons_append, okL, okL_bad z hz r, Bool.and_false]

theorem rd_at (l : List ByteArray) (i : Nat) (h : i < l.length) : rdOf ByteArray.empty l (i : Int) = l[i] := by
  unfold rdOf
  rw [Int.toNat_natCast, List.getD_eq_getElem?_getD, List.getElem?_eq_getElem h]
  rfl

theorem check_l0 (l : List ByteArray) (hl : l.length ≤ 9223372036854775806) (hs : ∀ s ∈ l, s.size ≤ 140737488351232) : ∀ (d i n : Nat), i + d = l.length → n ≤ 4096 → ∀ k, d < k →
    env_Check.l0 k l (n : Int) l (l.length : Int) (i : Int) = some (if okL n (l.drop i) && decide (l.length ≤ 64) then 0 else 100) := by
  intro d
  induction d with
  | zero =>
    intro i n hi hn k hk
    obtain ⟨k, rfl⟩ : ∃ m, k = m + 1 := ⟨k - 1, by omega⟩
    simp only [env_Check.l0]
    rw [if_neg (by omega), List.drop_of_length_le (by omega)]
    by_cases h : l.length ≤ 64
    · rw [if_neg (by omega), if_pos (by simp [okL, h])]
    · rw [if_pos (by omega), if_neg (by simp [okL, h])]
  | succ d ih =>
    intro i n hi hn k hk
    obtain ⟨k, rfl⟩ : ∃ m, k = m + 1 := ⟨k - 1, by omega⟩
    have hi2 : i < l.length := by omega
    have hb := hs l[i] (List.getElem_mem hi2)
    simp only [env_Check.l0, strings_IndexByte.f]
    rw [if_pos (by omega), if_pos (by omega), if_pos (by omega), rd_at l i hi2, Option.bind_some, List.drop_eq_getElem_cons hi2, w64 (x := (n : Int) + (l[i].size : Int)) (by omega) (by omega), w64 (x := (i : Int) + 1) (by omega) (by omega)]
    rw [show ((0 : Int).toNat.toUInt8) = 0 from rfl]
    by_cases h1 : Lib.indexByte l[i].data.toList 0 ≥ 0
    · rw [if_pos h1]
      have e : okL n (l[i] :: l.drop (i + 1)) = false := by
        have e1 : decide (Lib.indexByte l[i].data.toList 0 < 0) = false := decide_eq_false (by omega)
        unfold okL
        rw [e1, Bool.false_and, Bool.false_and]
      rw [e]
      rfl
    · rw [if_neg h1]
      have e1 : decide (Lib.indexByte l[i].data.toList 0 < 0) = true := decide_eq_true (by omega)
      by_cases h2 : n + l[i].size ≤ 4096
      · rw [if_neg (by omega)]
        have := ih (i + 1) (n + l[i].size) (by omega) h2 k (by omega)
        rw [show (((n + l[i].size : Nat) : Int)) = (n : Int) + (l[i].size : Int) by omega, show (((i + 1 : Nat) : Int)) = (i : Int) + 1 by omega] at this
        rw [this]
        have e : okL n (l[i] :: l.drop (i + 1)) = okL (n + l[i].size) (l.drop (i + 1)) := by
          rw [okL, e1, decide_eq_true h2, Bool.true_and, Bool.true_and]
        rw [e]
      · rw [if_pos (by omega)]
        have e : okL n (l[i] :: l.drop (i + 1)) = false := by
          rw [okL, decide_eq_false h2, Bool.and_false, Bool.false_and]
        rw [e]
        rfl

theorem check_ev (l : List ByteArray) (hl : l.length ≤ 9223372036854775806) (hs : ∀ s ∈ l, s.size ≤ 140737488351232) (k : Nat) (hk : l.length < k) :
    env_Check.f k l = some (if okL 0 l && decide (l.length ≤ 64) then 0 else 100) := by
  have := check_l0 l hl hs l.length 0 0 (by omega) (by omega) k hk
  rwa [List.drop_zero] at this

theorem tot_drop (l : List ByteArray) (i : Nat) (h : i < l.length) : tot (l.drop i) = l[i].size + 1 + tot (l.drop (i + 1)) := by
  rw [List.drop_eq_getElem_cons h]
  rfl
theorem tot_drop_le (l : List ByteArray) : ∀ i : Nat, tot (l.drop i) ≤ tot l
  | 0 => by simp
  | i + 1 => by
    have := tot_drop_le l i
    by_cases h : i < l.length
    · rw [tot_drop l i h] at this
      omega
    · rw [List.drop_of_length_le (by omega)]
      simp [tot]

theorem sizes_l0 (l : List ByteArray) (hl : l.length ≤ 9223372036854775806) (ht : tot l ≤ 10000) : ∀ (d i s : Nat), i + d = l.length → s + tot (l.drop i) = tot l → ∀ k, d < k →
    env_Sizes.l0 k l (s : Int) l (l.length : Int) (i : Int) = some ((l.length : Int), (tot l : Int), 0) := by
  intro d
  induction d with
  | zero =>
    intro i s hi hs k hk
    obtain ⟨k, rfl⟩ : ∃ m, k = m + 1 := ⟨k - 1, by omega⟩
    simp only [env_Sizes.l0]
    rw [List.drop_of_length_le (by omega)] at hs
    simp only [tot, Nat.add_zero] at hs
    rw [if_neg (by omega), hs]
  | succ d ih =>
    intro i s hi hs k hk
    obtain ⟨k, rfl⟩ : ∃ m, k = m + 1 := ⟨k - 1, by omega⟩
    have hi2 : i < l.length := by omega
    rw [tot_drop l i hi2] at hs
    simp only [env_Sizes.l0]
    rw [if_pos (by omega), if_pos (by omega), if_pos (by omega), rd_at l i hi2, w64 (x := (l[i].size : Int) + 1) (by omega) (by omega), w64 (x := (s : Int) + ((l[i].size : Int) + 1)) (by omega) (by omega), w64 (x := (i : Int) + 1) (by omega) (by omega)]
    have := ih (i + 1) (s + (l[i].size + 1)) (by omega) (by omega) k (by omega)
    rw [show (((s + (l[i].size + 1) : Nat) : Int)) = (s : Int) + ((l[i].size : Int) + 1) by omega, show (((i + 1 : Nat) : Int)) = (i : Int) + 1 by omega] at this
    exact this

theorem sizes_ev (l : List ByteArray) (hl : l.length ≤ 9223372036854775806) (hs : ∀ s ∈ l, s.size ≤ 140737488351232) (k : Nat) (hk : l.length < k) :
    env_Sizes.f k l = some (if okL 0 l && decide (l.length ≤ 64) then ((l.length : Int), (tot l : Int), 0) else (0, 0, 100)) := by
  unfold env_Sizes.f
  rw [check_ev l hl hs k hk, Option.bind_some]
  by_cases h : (okL 0 l && decide (l.length ≤ 64)) = true
  · simp only [h, if_true]
    have h2 : okL 0 l = true ∧ l.length ≤ 64 := by simpa using h
    have h3 := okL_tot l 0 h2.1 (by omega)
    have := sizes_l0 l hl (by omega) l.length 0 0 (by omega) (by simp) k hk
    exact this
  · simp only [h, if_false, Bool.false_eq_true]
    rw [if_neg (by omega)]

theorem copy_l0 (l : List ByteArray) (hl : l.length < 8796093022208) : ∀ (d i : Nat), i + d = l.length → ∀ k, d < k → gangwayref0_CopyStrings.l0 k l (l.take i) (i : Int) = some l := by
  intro d
  induction d with
  | zero =>
    intro i hi k hk
    obtain ⟨k, rfl⟩ : ∃ m, k = m + 1 := ⟨k - 1, by omega⟩
    simp only [gangwayref0_CopyStrings.l0]
    rw [if_neg (by omega), List.take_of_length_le (by omega)]
  | succ d ih =>
    intro i hi k hk
    obtain ⟨k, rfl⟩ : ∃ m, k = m + 1 := ⟨k - 1, by omega⟩
    have hi2 : i < l.length := by omega
    simp only [gangwayref0_CopyStrings.l0]
    rw [if_pos (by omega), if_pos (by omega), if_pos (by simp; omega), rd_at l i hi2, w64 (by omega) (by omega), ← List.take_succ_eq_append_getElem hi2]
    exact ih (i + 1) (by omega) k (by omega)
theorem copy_ev (l : List ByteArray) (hl : l.length < 8796093022208) (k : Nat) (hk : l.length < k) : gangwayref0_CopyStrings.f k l = some l := by
  have := copy_l0 l hl l.length 0 (by omega) k hk
  exact this

theorem heavy_l0 (l : List ByteArray) (a b : Int) : ∀ (d i : Nat), i + d = 200 → ∀ (n : Int) (k : Nat), d < k → ∃ r, gangwaylaw22_heavy.l0 k n (i : Int) l a b = some r := by
  intro d
  induction d with
  | zero =>
    intro i hi n k hk
    obtain ⟨k, rfl⟩ : ∃ m, k = m + 1 := ⟨k - 1, by omega⟩
    simp only [gangwaylaw22_heavy.l0]
    by_cases h : (i : Int) < (l.length : Int)
    · rw [if_pos h, if_neg (by omega)]
      split <;> exact ⟨_, rfl⟩
    · rw [if_neg h]
      split <;> exact ⟨_, rfl⟩
  | succ d ih =>
    intro i hi n k hk
    obtain ⟨k, rfl⟩ : ∃ m, k = m + 1 := ⟨k - 1, by omega⟩
    simp only [gangwaylaw22_heavy.l0]
    by_cases h : (i : Int) < (l.length : Int)
    · rw [if_pos h, if_pos (by omega), if_pos (by omega), w64 (x := (i : Int) + 1) (by omega) (by omega)]
      exact ih (i + 1) (by omega) _ k (by omega)
    · rw [if_neg h]
      split <;> exact ⟨_, rfl⟩
theorem heavy_ev (l : List ByteArray) (a b : Int) (k : Nat) (hk : 200 < k) : ∃ r, gangwaylaw22_heavy.f k l a b = some r := heavy_l0 l a b 200 0 (by omega) 0 k hk

theorem make_l0 : ∀ (d i : Nat), i + d = 4096 → ∀ k, d < k → gangwaylaw22_make16.l0 k (List.replicate i 120 ++ List.replicate d 0) (i : Int) = some (List.replicate 4096 120) := by
  intro d
  induction d with
  | zero =>
    intro i hi k hk
    obtain ⟨k, rfl⟩ : ∃ m, k = m + 1 := ⟨k - 1, by omega⟩
    obtain rfl : i = 4096 := by omega
    simp only [gangwaylaw22_make16.l0]
    rw [if_neg (by rw [List.length_append, List.length_replicate, List.length_replicate]; omega), List.replicate_zero, List.append_nil]
  | succ d ih =>
    intro i hi k hk
    obtain ⟨k, rfl⟩ : ∃ m, k = m + 1 := ⟨k - 1, by omega⟩
    simp only [gangwaylaw22_make16.l0]
    rw [if_pos (by rw [List.length_append, List.length_replicate, List.length_replicate]; omega), if_pos (by omega), w64 (by omega) (by omega), Int.toNat_natCast]
    have e : (List.replicate i (120 : Int) ++ List.replicate (d + 1) 0).set i 120 = List.replicate (i + 1) 120 ++ List.replicate d 0 := by
      rw [List.set_append_right _ _ (by simp), List.length_replicate, Nat.sub_self, List.replicate_succ, List.set_cons_zero, List.replicate_succ', List.append_assoc]
      rfl
    rw [e]
    exact ih (i + 1) (by omega) k (by omega)
theorem make_ev (k : Nat) (hk : 4096 < k) : gangwaylaw22_make16.f k = some (List.replicate 4096 120) := by
  have := make_l0 4096 0 (by omega) k hk
  exact this

theorem index_rep (n : Nat) : Lib.indexByte (List.replicate n 120) 0 = -1 := by
  induction n with
  | zero => rfl
  | succ n ih =>
    rw [List.replicate_succ, Lib.indexByte, if_neg (by decide), ih]
    rfl
theorem s16_list : (strOfNums (List.replicate 4096 120)).data.toList = List.replicate 4096 120 := by
  rw [strOfNums_data, List.map_replicate]
  rfl
theorem s16_size : (strOfNums (List.replicate 4096 120)).size = 4096 := by
  rw [strOfNums_size, List.length_replicate]

theorem wakes_ev (k : Nat) (hk : 3 ≤ k) : gangwaylaw22_wakes.f k = some true := by
  unfold gangwaylaw22_wakes.f gangwaylaw22_num.f
  rw [sizes_ev _ (by decide) (by decide) k (by simp; omega), Option.bind_some]
  decide

/-- What is asked at the end, of no ask at all. -/
theorem last_ev (k : Nat) (hk : 5000 < k) :
    ((env_Sizes.f k (List.replicate 64 (⟨#[]⟩ : ByteArray))).bind fun bt147 => ((env_Sizes.f k (List.replicate 65 (⟨#[]⟩ : ByteArray))).bind fun bt153 => ((gangwaylaw22_make16.f k).bind fun t156 => ((env_Sizes.f k (([strOfNums t156] : List ByteArray))).bind fun bt162 => ((gangwaylaw22_make16.f k).bind fun t165 => ((env_Sizes.f k (([strOfNums t165, (⟨#[120]⟩ : ByteArray)] : List ByteArray))).bind fun bt171 => ((gangwaylaw22_num.f bt147.2.2).bind fun t174 => (if t174 = 0 then (if bt147.1 = 64 then (if bt147.2.1 = 64 then ((gangwaylaw22_num.f bt153.2.2).bind fun t175 => (if t175 = 100 then ((gangwaylaw22_num.f bt162.2.2).bind fun t176 => (if t176 = 0 then (if bt162.1 = 1 then (if bt162.2.1 = 4097 then ((gangwaylaw22_num.f bt171.2.2).bind fun t177 => (if t177 = 100 then ((gangwaylaw22_wakes.f k).bind fun t178 => (some t178)) else (some false))) else (some false)) else (some false)) else (some false))) else (some false))) else (some false)) else (some false)) else (some false))))))))) = some true := by
  have a1 : env_Sizes.f k (List.replicate 64 (⟨#[]⟩ : ByteArray)) = some (64, 64, 0) := by
    rw [sizes_ev _ (by decide) (by decide) k (by simp; omega)]
    decide
  have a2 : env_Sizes.f k (List.replicate 65 (⟨#[]⟩ : ByteArray)) = some (0, 0, 100) := by
    rw [sizes_ev _ (by decide) (by decide) k (by simp; omega)]
    decide
  obtain ⟨S, hS, z1, z2⟩ : ∃ S, strOfNums (List.replicate 4096 120) = S ∧ S.size = 4096 ∧ Lib.indexByte S.data.toList 0 = -1 := ⟨_, rfl, s16_size, by rw [s16_list, index_rep]⟩
  have hm : ∀ s ∈ [S], s.size ≤ 140737488351232 := by
    intro s hs
    rw [List.mem_singleton.1 hs, z1]
    omega
  have hm2 : ∀ s ∈ [S, (⟨#[120]⟩ : ByteArray)], s.size ≤ 140737488351232 := by
    intro s hs
    rcases List.mem_cons.1 hs with rfl | hs
    · rw [z1]; omega
    · rw [List.mem_singleton.1 hs]; decide
  have a3 : env_Sizes.f k [S] = some (1, 4097, 0) := by
    rw [sizes_ev _ (by simp) hm k (by simp; omega)]
    simp [okL, tot, z1, z2]
  have a4 : env_Sizes.f k [S, (⟨#[120]⟩ : ByteArray)] = some (0, 0, 100) := by
    rw [sizes_ev _ (by simp) hm2 k (by simp; omega)]
    have e : (⟨#[120]⟩ : ByteArray).size = 1 := rfl
    simp [okL, z1, z2, e]
  unfold gangwaylaw22_num.f
  rw [a1, Option.bind_some, a2, Option.bind_some, make_ev k (by omega), Option.bind_some, hS, a3, Option.bind_some, Option.bind_some, hS, a4, Option.bind_some, Option.bind_some, if_pos rfl, if_pos rfl, if_pos rfl, Option.bind_some, if_pos rfl, Option.bind_some, if_pos rfl, if_pos rfl, if_pos rfl,
    Option.bind_some, if_pos rfl, wakes_ev k (by omega)]
  rfl

theorem l1_ev (x0 : List S26) (i : Nat) (hi : i < x0.length) (l : List ByteArray) (hx : (rd_T26 x0 (i : Int)).f0 = l) (hl : l.length ≤ 8796093021952) (ht : tot l ≤ 10000) (K : Nat) (next : ∀ k, K < k → gangwaylaw22_EnvSizes.j3 k x0 (i : Int) false = some true) :
    ∀ (d j s : Nat), j + d = l.length → s + tot (l.drop j) = tot l → ∀ k, K + d + 1 < k → gangwaylaw22_EnvSizes.l1 k x0 (i : Int) (l.length : Int) (tot l : Int) (s : Int) (j : Int) = some true := by
  intro d
  induction d with
  | zero =>
    intro j s hj hs k hk
    obtain ⟨k, rfl⟩ : ∃ m, k = m + 1 := ⟨k - 1, by omega⟩
    rw [List.drop_of_length_le (by omega)] at hs
    simp only [tot, Nat.add_zero] at hs
    simp only [gangwaylaw22_EnvSizes.l1, hx]
    rw [if_pos (by omega), if_pos (by omega), if_neg (by omega), if_pos trivial, hs]
    have : (((tot l : Int)) != (tot l : Int)) = false := by simp
    rw [this]
    exact next k (by omega)
  | succ d ih =>
    intro j s hj hs k hk
    obtain ⟨k, rfl⟩ : ∃ m, k = m + 1 := ⟨k - 1, by omega⟩
    have hj2 : j < l.length := by omega
    rw [tot_drop l j hj2] at hs
    simp only [gangwaylaw22_EnvSizes.l1, hx]
    rw [if_pos (by omega), if_pos (by omega), if_pos (by omega), if_pos (by omega), rd_at l j hj2, w64 (x := (s : Int) + (l[j].size : Int)) (by omega) (by omega), w64 (x := (s : Int) + (l[j].size : Int) + 1) (by omega) (by omega), w64 (x := (j : Int) + 1) (by omega) (by omega)]
    have := ih (j + 1) (s + (l[j].size + 1)) (by omega) (by omega) k (by omega)
    rw [show (((s + (l[j].size + 1) : Nat) : Int)) = (s : Int) + (l[j].size : Int) + 1 by omega, show (((j + 1 : Nat) : Int)) = (j : Int) + 1 by omega] at this
    exact this

theorem EnvSizes_l0 (l : List S26) (hl : l.length ≤ 140737488351232) (hok : ∀ x ∈ l, x.f0.length ≤ 8796093021952 ∧ ∀ s ∈ x.f0, s.size ≤ 140737488351232) : ∀ (d i : Nat), i + d = l.length → ∀ k, 100 * d + 17592186044500 < k → gangwaylaw22_EnvSizes.l0 k l (i : Int) = some true := by
  intro d
  induction d with
  | zero =>
    intro i hi k hk
    obtain ⟨k, rfl⟩ : ∃ m, k = m + 2 := ⟨k - 2, by omega⟩
    simp only [gangwaylaw22_EnvSizes.l0]
    rw [if_neg (by omega)]
    simp only [gangwaylaw22_EnvSizes.j1]
    rw [if_neg (by simp)]
    exact last_ev k (by omega)
  | succ d ih =>
    intro i hi k hk
    obtain ⟨k, rfl⟩ : ∃ m, k = m + 2 := ⟨k - 2, by omega⟩
    have hi2 : i < l.length := by omega
    simp only [gangwaylaw22_EnvSizes.l0]
    rw [if_pos (by omega)]
    simp only [gangwaylaw22_EnvSizes.j1]
    by_cases h8 : (i : Int) < 8
    · rw [if_pos (by simpa using h8), if_pos (by omega), if_pos (by omega)]
      have hx := hok (rd_T26 l (i : Int)) (by
        unfold rd_T26
        rw [Int.toNat_natCast, List.getD_eq_getElem?_getD, List.getElem?_eq_getElem hi2]
        exact List.getElem_mem _)
      generalize hL : (rd_T26 l (i : Int)).f0 = L at hx
      obtain ⟨r, hr⟩ := heavy_ev L (rd_T26 l (i : Int)).f1 (rd_T26 l (i : Int)).f2 k (by omega)
      rw [hr, Option.bind_some]
      cases r with
      | true => rw [if_pos rfl]
      | false =>
        rw [if_neg (by simp), sizes_ev L (by omega) hx.2 k (by omega), Option.bind_some]
        unfold gangwaylaw22_num.f
        have again : ∀ k', 100 * d + 17592186044500 < k' → gangwaylaw22_EnvSizes.l0 k' l (wrap64 ((i : Int) + 1)) = some true := by
          intro k' hk'
          rw [w64 (by omega) (by omega)]
          exact ih (i + 1) (by omega) k' hk'
        by_cases h : (okL 0 L && decide (L.length ≤ 64)) = true
        · simp only [h, if_true, Option.bind_some]
          have h2 : okL 0 L = true ∧ L.length ≤ 64 := by simpa using h
          have h3 := okL_tot L 0 h2.1 (by omega)
          have next : ∀ k', 100 * d + 17592186044502 < k' → gangwaylaw22_EnvSizes.j3 k' l (i : Int) false = some true := by
            intro k' hk'
            obtain ⟨k', rfl⟩ : ∃ m, k' = m + 1 := ⟨k' - 1, by omega⟩
            simp only [gangwaylaw22_EnvSizes.j3, hL, gangwaylaw22_num.f]
            rw [if_neg (by simp), if_pos (by omega), if_pos (by omega), copy_ev L (by omega) k' (by omega), Option.bind_some, if_pos (by omega),
              sizes_ev (L ++ [(⟨#[120, 0]⟩ : ByteArray)]) (by simp; omega) (by
                intro s hs
                rcases List.mem_append.1 hs with hs | hs
                · exact hx.2 s hs
                · rw [List.mem_singleton.1 hs]; decide) k' (by simp; omega), Option.bind_some]
            rw [okL_bad (⟨#[120, 0]⟩ : ByteArray) (by decide) L 0]
            simp only [Bool.false_and, Bool.false_eq_true, if_false, Option.bind_some, if_true]
            exact again k' (by omega)
          have := l1_ev l i hi2 L hL hx.1 (by omega) (100 * d + 17592186044502) next L.length 0 0 (by omega) (by simp) k (by omega)
          exact this
        · simp only [h, if_false, Bool.false_eq_true, Option.bind_some]
          rw [if_neg (by omega)]
          exact again k (by omega)
    · rw [if_neg (by simpa using h8)]
      exact last_ev k (by omega)

theorem EnvSizes : gangwaylaw22_EnvSizes.Pure := by
  intro l ⟨hl, hok⟩
  exact ⟨100 * l.length + 17592186044501, EnvSizes_l0 l (by omega) (fun x hx => by have := hok x hx; simp only [okT26] at this; exact ⟨by omega, this.1.2⟩) l.length 0 (by omega) _ (by omega)⟩

end Go.Proofs.Ytpaodfhhnhbacaa.Pure
