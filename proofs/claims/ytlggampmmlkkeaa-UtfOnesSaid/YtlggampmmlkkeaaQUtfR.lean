/- What the reference's Points, utf's Bytes and the small helpers come to. -/
import Derived.Test.YtlggampmmlkkeaaPAllx3
import Derived.Test.YtlggampmmlkkeaaPAllx2
import Derived.Test.YtlggampmmlkkeaaPAllx4
import Derived.Test.YtlggampmmlkkeaaPAllx1
import Derived.Test.YtlggampmmlkkeaaPAllx5
import Derived.Test.YtlggampmmlkkeaaQUtfP
namespace Go.Proofs.Ytlggampmmlkkeaa.Q
open Go.RowKit Go.Proofs.Ytlggampmmlkkeaa.PAll Go.Proofs.YtlggampmmlkkeaaW.PrintWords Go.Proofs.YtlggampmmlkkeaaW.PrintLast Go.Proofs.YtlggampmmlkkeaaW.PrintMore Go.Proofs.YtlggampmmlkkeaaU
set_option linter.unusedVariables false

theorem and63 {v : Int} (h0 : 0 ≤ v) (h1 : v < 2147483648) : Go.bits .and .i32 v 63 = v % 64 := bits_mask .i32 31 (by decide) wraps_i32 6 (by decide) v h0 (by omega)

theorem put1 (p : Int) (hp : May p) : gangwayref1_Put.f p = some (enc p) := by
  obtain ⟨h0, h1, h2⟩ := hp
  unfold gangwayref1_Put.f enc
  rw [and63 h0 (by omega), and63 (v := p / 64) (by omega) (by omega), and63 (v := p / 4096) (by omega) (by omega)]
  by_cases c1 : p < 128
  · rw [if_pos c1, if_pos c1, Int.emod_eq_of_lt h0 (by omega)]
  · rw [if_neg c1, if_neg c1]
    by_cases c2 : p < 2048
    · rw [if_pos c2, if_pos c2, Int.emod_eq_of_lt (a := p / 64) (by omega) (by omega), Int.emod_eq_of_lt (a := p % 64) (by omega) (by omega), u8_or192 _ (by omega) (by omega), u8_or128 _ (by omega) (by omega)]
    · rw [if_neg c2, if_neg c2]
      by_cases c3 : p < 65536
      · rw [if_pos c3, if_pos c3, Int.emod_eq_of_lt (a := p / 4096) (by omega) (by omega), Int.emod_eq_of_lt (a := p % 64) (by omega) (by omega), Int.emod_eq_of_lt (a := p / 64 % 64) (by omega) (by omega), u8_or224 _ (by omega) (by omega), u8_or128 _ (by omega) (by omega), u8_or128 _ (by omega) (by omega)]
      · rw [if_neg c3, if_neg c3, Int.emod_eq_of_lt (a := p / 262144) (by omega) (by omega), Int.emod_eq_of_lt (a := p % 64) (by omega) (by omega), Int.emod_eq_of_lt (a := p / 64 % 64) (by omega) (by omega), Int.emod_eq_of_lt (a := p / 4096 % 64) (by omega) (by omega), u8_or240 _ (by omega) (by omega), u8_or128 _ (by omega) (by omega), u8_or128 _ (by omega) (by omega), u8_or128 _ (by omega) (by omega)]

theorem put2 (a : List Int) (p : Int) (hp : May p) (ha : a.length < 1000000) : utf_put.f a p = some (a ++ enc p) := by
  obtain ⟨h0, h1, h2⟩ := hp
  unfold utf_put.f enc
  rw [and63 h0 (by omega), and63 (v := p / 64) (by omega) (by omega), and63 (v := p / 4096) (by omega) (by omega)]
  by_cases c1 : p < 128
  · rw [if_pos c1, if_pos c1, if_pos (by omega), Int.emod_eq_of_lt h0 (by omega)]
  · rw [if_neg c1, if_neg c1]
    by_cases c2 : p < 2048
    · rw [if_pos c2, if_pos c2, Int.emod_eq_of_lt (a := p / 64) (by omega) (by omega), Int.emod_eq_of_lt (a := p % 64) (by omega) (by omega), u8_or192 _ (by omega) (by omega), u8_or128 _ (by omega) (by omega), Option.bind_some, if_pos (by simp; omega)]
    · rw [if_neg c2, if_neg c2]
      by_cases c3 : p < 65536
      · rw [if_pos c3, if_pos c3, Int.emod_eq_of_lt (a := p / 4096) (by omega) (by omega), Int.emod_eq_of_lt (a := p % 64) (by omega) (by omega), Int.emod_eq_of_lt (a := p / 64 % 64) (by omega) (by omega), u8_or224 _ (by omega) (by omega), u8_or128 _ (by omega) (by omega), u8_or128 _ (by omega) (by omega), Option.bind_some, if_pos (by simp; omega)]
      · rw [if_neg c3, if_neg c3, Int.emod_eq_of_lt (a := p / 262144) (by omega) (by omega), Int.emod_eq_of_lt (a := p % 64) (by omega) (by omega), Int.emod_eq_of_lt (a := p / 64 % 64) (by omega) (by omega), Int.emod_eq_of_lt (a := p / 4096 % 64) (by omega) (by omega), u8_or240 _ (by omega) (by omega), u8_or128 _ (by omega) (by omega), u8_or128 _ (by omega) (by omega), u8_or128 _ (by omega) (by omega), Option.bind_some, if_pos (by simp; omega)]

/-- The bytes of code points, if they all may be. -/
theorem bytes_l0 (l : List Int) (hl : l.length < 100000) : ∀ (d i : Nat) (acc : List Int), i + d = l.length → acc.length ≤ 4 * i → ∀ k, d < k →
    utf_Bytes.l0 k acc l (l.length : Int) (i : Int) = some (if ∀ p ∈ l.drop i, May p then (acc ++ txt (l.drop i), 0) else ([], 100)) := by
  intro d
  induction d with
  | zero =>
    intro i acc hi ha k hk
    obtain ⟨k, rfl⟩ : ∃ m, k = m + 1 := ⟨k - 1, by omega⟩
    simp only [utf_Bytes.l0]
    rw [if_neg (by omega), List.drop_of_length_le (by omega)]
    simp [txt]
  | succ d ih =>
    intro i acc hi ha k hk
    obtain ⟨k, rfl⟩ : ∃ m, k = m + 1 := ⟨k - 1, by omega⟩
    have hd := drop_cons (b := l) (i := i) (by omega)
    simp only [utf_Bytes.l0]
    rw [if_pos (by omega), if_pos (by omega), if_pos (by omega), rd_nat, may_eq, Option.bind_some, hd]
    by_cases hm : May (l.getD i 0)
    · have hen := enc_length (l.getD i 0)
      rw [if_pos (by simpa using hm), put2 acc _ hm (by omega), Option.bind_some, w64 (by omega) (by omega), show ((i : Int) + 1) = ((i + 1 : Nat) : Int) by omega, ih (i + 1) _ (by omega) (by rw [List.length_append]; omega) k (by omega)]
      by_cases hr : ∀ p ∈ l.drop (i + 1), May p
      · rw [if_pos hr, if_pos (by intro p hp; rcases List.mem_cons.1 hp with rfl | hp; exact hm; exact hr p hp)]
        simp [txt]
      · rw [if_neg hr, if_neg (fun h => hr (fun p hp => h p (List.mem_cons_of_mem _ hp)))]
    · rw [if_neg (by simpa using hm), if_neg (fun h => hm (h _ (by simp)))]
theorem bytes_ev (l : List Int) (hl : l.length < 100000) (k : Nat) (hk : l.length < k) : utf_Bytes.f k l = some (if ∀ p ∈ l, May p then (txt l, 0) else ([], 100)) := by
  have := bytes_l0 l hl l.length 0 [] (by omega) (by simp) k hk
  simp only [List.drop_zero, List.nil_append] at this
  exact this

theorem copy_l0 (b : List Int) (hm : b.length < 100000) : ∀ (d i : Nat) (acc : List Int), i + d = b.length → acc.length = i → ∀ k, d < k → gangwayref0_CopyBytes.l0 k b acc (i : Int) = some (acc ++ b.drop i) := by
  intro d
  induction d with
  | zero =>
    intro i acc hi ha k hk
    obtain ⟨k, rfl⟩ : ∃ m, k = m + 1 := ⟨k - 1, by omega⟩
    simp only [gangwayref0_CopyBytes.l0]
    rw [if_neg (by omega), List.drop_of_length_le (by omega), List.append_nil]
  | succ d ih =>
    intro i acc hi ha k hk
    obtain ⟨k, rfl⟩ : ∃ m, k = m + 1 := ⟨k - 1, by omega⟩
    simp only [gangwayref0_CopyBytes.l0]
    rw [if_pos (by omega), if_pos (by omega), if_pos (by omega), rd_nat, w64 (by omega) (by omega), show ((i : Int) + 1) = ((i + 1 : Nat) : Int) by omega, ih (i + 1) _ (by omega) (by simp; omega) k (by omega), drop_cons (b := b) (i := i) (by omega)]
    simp
theorem copy_ev (b : List Int) (hm : b.length < 100000) (k : Nat) (hk : b.length < k) : gangwayref0_CopyBytes.f k b = some b := by
  have := copy_l0 b hm b.length 0 [] (by omega) rfl k hk
  rw [List.nil_append, List.drop_zero] at this
  exact this

theorem eqb_l0 (a b : List Int) (hl : a.length = b.length) (hm : a.length < 140737488355328) : ∀ (d j : Nat), j + d = a.length → ∀ k, d < k → gangwayref0_EqBytes.l0 k a b (j : Int) = some (decide (a.drop j = b.drop j)) := by
  intro d
  induction d with
  | zero =>
    intro j hj k hk
    obtain ⟨k, rfl⟩ : ∃ m, k = m + 1 := ⟨k - 1, by omega⟩
    simp only [gangwayref0_EqBytes.l0]
    rw [if_neg (by omega), List.drop_of_length_le (by omega), List.drop_of_length_le (by omega)]
    rfl
  | succ d ih =>
    intro j hj k hk
    obtain ⟨k, rfl⟩ : ∃ m, k = m + 1 := ⟨k - 1, by omega⟩
    have e3 : wrap64 ((j : Int) + 1) = ((j + 1 : Nat) : Int) := by rw [w64 (by omega) (by omega)]; omega
    simp only [gangwayref0_EqBytes.l0]
    rw [if_pos (by omega), if_pos (by omega), if_pos (by omega), rd_nat, rd_nat, e3]
    have hs := beq_cons_take (a := a) (b := b) (i := j) (by omega) (by omega)
    by_cases h : a.getD j 0 = b.getD j 0
    · rw [if_pos h, ih (j + 1) (by omega) k (by omega)]
      simp only [hs, h, true_and]
    · rw [if_neg h]
      simp only [hs, h, false_and, decide_false]
theorem eqb_ev (a b : List Int) (hm : a.length < 140737488355328) (k : Nat) (hk : a.length < k) : gangwayref0_EqBytes.f k a b = some (decide (a = b)) := by
  unfold gangwayref0_EqBytes.f
  by_cases h : a.length = b.length
  · rw [if_pos (by omega)]
    exact eqb_l0 a b h hm a.length 0 (by omega) k (by omega)
  · rw [if_neg (by omega)]
    have : a ≠ b := fun e => h (by rw [e])
    simp [this]
theorem eqp_l0 (a b : List Int) (hl : a.length = b.length) (hm : a.length < 140737488355328) : ∀ (d j : Nat), j + d = a.length → ∀ k, d < k → gangwayref0_EqPoints.l0 k a b (j : Int) = some (decide (a.drop j = b.drop j)) := by
  intro d
  induction d with
  | zero =>
    intro j hj k hk
    obtain ⟨k, rfl⟩ : ∃ m, k = m + 1 := ⟨k - 1, by omega⟩
    simp only [gangwayref0_EqPoints.l0]
    rw [if_neg (by omega), List.drop_of_length_le (by omega), List.drop_of_length_le (by omega)]
    rfl
  | succ d ih =>
    intro j hj k hk
    obtain ⟨k, rfl⟩ : ∃ m, k = m + 1 := ⟨k - 1, by omega⟩
    have e3 : wrap64 ((j : Int) + 1) = ((j + 1 : Nat) : Int) := by rw [w64 (by omega) (by omega)]; omega
    simp only [gangwayref0_EqPoints.l0]
    rw [if_pos (by omega), if_pos (by omega), if_pos (by omega), rd_nat, rd_nat, e3]
    have hs := beq_cons_take (a := a) (b := b) (i := j) (by omega) (by omega)
    by_cases h : a.getD j 0 = b.getD j 0
    · rw [if_pos h, ih (j + 1) (by omega) k (by omega)]
      simp only [hs, h, true_and]
    · rw [if_neg h]
      simp only [hs, h, false_and, decide_false]
theorem eqp_ev (a b : List Int) (hm : a.length < 140737488355328) (k : Nat) (hk : a.length < k) : gangwayref0_EqPoints.f k a b = some (decide (a = b)) := by
  unfold gangwayref0_EqPoints.f
  by_cases h : a.length = b.length
  · rw [if_pos (by omega)]
    exact eqp_l0 a b h hm a.length 0 (by omega) k (by omega)
  · rw [if_neg (by omega)]
    have : a ≠ b := fun e => h (by rw [e])
    simp [this]
theorem spoil_l0 : ∀ (d i : Nat) (b : List Int), i + d = b.length → b.length < 100000 → ∀ k, d < k → gangwaylaw0_Points.l0 k b (i : Int) = some () := by
  intro d
  induction d with
  | zero =>
    intro i b hi hb k hk
    obtain ⟨k, rfl⟩ : ∃ m, k = m + 1 := ⟨k - 1, by omega⟩
    simp only [gangwaylaw0_Points.l0]
    rw [if_neg (by omega), if_pos (by omega)]
  | succ d ih =>
    intro i b hi hb k hk
    obtain ⟨k, rfl⟩ : ∃ m, k = m + 1 := ⟨k - 1, by omega⟩
    simp only [gangwaylaw0_Points.l0]
    rw [if_pos (by omega), if_pos (by omega), w64 (by omega) (by omega), show ((i : Int) + 1) = ((i + 1 : Nat) : Int) by omega]
    exact ih (i + 1) _ (by simp; omega) (by simp; omega) k (by omega)
theorem spoil_ev (b : List Int) (hb : b.length < 100000) (k : Nat) (hk : b.length < k) : gangwaylaw0_Points.f k b = some () := spoil_l0 b.length 0 b (by omega) hb k hk

theorem pts_len : ∀ (d : Nat) (b l : List Int), (∀ x ∈ b, 0 ≤ x) → pts d b = some l → l.length ≤ b.length := by
  intro d b l hb h
  obtain ⟨hm, h2⟩ := pts_some d b l hb h
  rw [h2]
  clear h h2 hm hb
  induction l with
  | nil => simp
  | cons p l ih =>
    have := enc_length p
    have e : txt (p :: l) = enc p ++ txt l := rfl
    rw [e, List.length_append, List.length_cons]
    omega
theorem wakes_ev (k : Nat) (hk : 30 ≤ k) : gangwaylaw2_wakes.f k = some true := by
  unfold gangwaylaw2_wakes.f gangwaylaw2_num.f
  rw [points_ev [226, 130, 172] ⟨by decide, by decide⟩ k (by simp; omega), Option.bind_some]
  have : pts ([226, 130, 172] : List Int).length ([226, 130, 172] : List Int) = some [8364] := by decide
  rw [this]
  simp only [outP, Option.bind_some, if_true]
  rw [eqp_ev _ _ (by decide) k (by simp; omega)]
  decide

/-- How many of two lists are the same from j on, up to n. -/
theorem first_l1 (b w : List Int) (n : Nat) (hn : n ≤ 4) (hb : n ≤ b.length) (hw : w.length = n) (p : Int) : ∀ (d j : Nat), j + d = n → ∀ k, d < k →
    gangwayref1_first.l1 k b (n : Int) p w (j : Int) = some (if (b.take n).drop j = w.drop j then (p, (n : Int)) else (0, 0)) := by
  intro d
  induction d with
  | zero =>
    intro j hj k hk
    obtain ⟨k, rfl⟩ : ∃ m, k = m + 1 := ⟨k - 1, by omega⟩
    simp only [gangwayref1_first.l1]
    rw [if_neg (by omega), List.drop_of_length_le (by simp; omega), List.drop_of_length_le (by omega), if_pos rfl]
  | succ d ih =>
    intro j hj k hk
    obtain ⟨k, rfl⟩ : ∃ m, k = m + 1 := ⟨k - 1, by omega⟩
    have e3 : wrap64 ((j : Int) + 1) = ((j + 1 : Nat) : Int) := by rw [w64 (by omega) (by omega)]; omega
    simp only [gangwayref1_first.l1]
    rw [if_pos (by omega), if_pos (by omega), if_pos (by omega), if_pos (by omega), rd_nat, rd_nat, e3]
    have hs := beq_cons_take (a := b.take n) (b := w) (i := j) (by simp; omega) (by omega)
    have ht : (b.take n).getD j 0 = b.getD j 0 := by simp [List.getD_eq_getElem?_getD, show j < n by omega]
    rw [ht] at hs
    by_cases h : b.getD j 0 = w.getD j 0
    · rw [if_pos h, ih (j + 1) (by omega) k (by omega)]
      by_cases h2 : (b.take n).drop (j + 1) = w.drop (j + 1)
      · rw [if_pos h2, if_pos (hs.2 ⟨h, h2⟩)]
      · rw [if_neg h2, if_neg (fun z => h2 (hs.1 z).2)]
    · rw [if_neg h, if_neg (fun z => h (hs.1 z).1)]

/-- The point that a class of n bytes says, by masks alone. -/
def msk : Nat → Int → List Int → Int
  | 0, v, _ => v
  | n + 1, v, d :: r => msk n (v * 64 + d % 64) r
  | n + 1, v, [] => v

theorem first_l0 (b : List Int) (hb : Bytes b) (n : Nat) (hn : n ≤ 4) (hbl : n ≤ b.length) : ∀ (m i : Nat) (v : Int), i + m = n → 0 ≤ v → (v + 1) * 64 ^ m ≤ 2147483648 → ∀ k, m + 6 < k →
    gangwayref1_first.l0 k b (n : Int) v (i : Int) = some (if May (msk m v (b.drop i)) ∧ b.take n = enc (msk m v (b.drop i)) then (msk m v (b.drop i), (n : Int)) else (0, 0)) := by
  intro m
  induction m with
  | zero =>
    intro i v hi hv hv2 k hk
    obtain ⟨k, rfl⟩ : ∃ m, k = m + 1 := ⟨k - 1, by omega⟩
    simp only [gangwayref1_first.l0, msk]
    rw [if_neg (by omega), point_eq, Option.bind_some]
    by_cases hm : May v
    · have hen := enc_length v
      rw [if_pos (by simpa using hm), put1 v hm, Option.bind_some]
      by_cases hl : (enc v).length = n
      · rw [if_pos (by omega)]
        have := first_l1 b (enc v) n hn hbl hl v n 0 (by omega) k (by omega)
        simp only [List.drop_zero] at this
        rw [show gangwayref1_first.l1 k b (n : Int) v (enc v) 0 = _ from this]
        by_cases he : b.take n = enc v
        · simp [he, hm]
        · simp [he]
      · have hne : ¬ b.take n = enc v := by
          intro h
          have := congrArg List.length h
          rw [List.length_take] at this
          omega
        rw [if_neg (by omega)]
        simp [hne]
    · simp [hm]
  | succ m ih =>
    intro i v hi hv hv2 k hk
    obtain ⟨k, rfl⟩ : ∃ m, k = m + 1 := ⟨k - 1, by omega⟩
    have hpw : (0 : Int) < 64 ^ m := Int.pow_pos (by decide)
    have e5 : (v + 1) * 64 ^ (m + 1) = (v + 1) * 64 * 64 ^ m := by rw [Int.pow_succ, Int.mul_comm (64 ^ m) 64, ← Int.mul_assoc]
    have h5 : (v + 1) * 64 * 1 ≤ (v + 1) * 64 * 64 ^ m := Int.mul_le_mul_of_nonneg_left (by omega) (by omega)
    rw [e5] at hv2
    have hg := hb.get i
    simp only [gangwayref1_first.l0]
    rw [if_pos (by omega), if_pos (by omega), if_pos (by omega), rd_nat, shl6 hv (by omega) hg.1 hg.2, w64 (by omega) (by omega), show ((i : Int) + 1) = ((i + 1 : Nat) : Int) by omega,
      ih (i + 1) _ (by omega) (by omega) (Int.le_trans (Int.mul_le_mul_of_nonneg_right (by omega) (by omega)) hv2) k (by omega), drop_cons (b := b) (i := i) (by omega)]
    rfl

/-- What the reference tells of a list's head, as what it is. -/
theorem head_is (b : List Int) (hb : Bytes b) (n : Nat) (v : Int) (hv : May v) (h : b.take n = enc v) (hn : n = (enc v).length) : head b = some (v, n) := by
  have := head_enc hv (b.drop n)
  rw [← hn, ← h, List.take_append_drop] at this
  exact this

theorem first_n (b : List Int) (hb : Bytes b) (n : Nat) (hn1 : 1 ≤ n) (hn : n ≤ 4) (v : Int) (hv : 0 ≤ v) (hv2 : (v + 1) * 64 ^ (n - 1) ≤ 2147483648)
    (hh : ∀ p q, head b = some (p, q) → q = n ∧ msk (n - 1) v (b.drop 1) = p) (k : Nat) (hk : 12 ≤ k) :
    gangwayref1_first.j0 k b (n : Int) v = some (match head b with | some (p, q) => (p, (q : Int)) | none => (0, 0)) := by
  obtain ⟨k, rfl⟩ : ∃ m, k = m + 1 := ⟨k - 1, by omega⟩
  simp only [gangwayref1_first.j0]
  by_cases hl : b.length < n
  · rw [if_pos (by omega)]
    cases hd : head b with
    | none => rfl
    | some q =>
      obtain ⟨p, q⟩ := q
      have h1 := (hh p q hd).1
      have h2 := head_le hd (fun x hx => (hb.2 x hx).1)
      omega
  · rw [if_neg (by omega)]
    have := first_l0 b hb n hn (by omega) (n - 1) 1 v (by omega) hv hv2 k (by omega)
    rw [show gangwayref1_first.l0 k b (n : Int) v 1 = _ from this]
    generalize hmm : msk (n - 1) v (b.drop 1) = m at hh
    by_cases hc : May m ∧ b.take n = enc m
    · rw [if_pos hc]
      have hln : n = (enc m).length := by rw [← hc.2, List.length_take]; omega
      rw [head_is b hb n m hc.1 hc.2 hln]
    · rw [if_neg hc]
      cases hd : head b with
      | none => rfl
      | some q =>
        obtain ⟨p, q⟩ := q
        obtain ⟨h1, h2⟩ := hh p q hd
        obtain ⟨h3, h4, h5⟩ := head_some (fun x hx => (hb.2 x hx).1) hd
        exfalso
        refine hc ⟨by rw [h2]; exact h3, ?_⟩
        rw [h2, ← h1, h4]
        conv => lhs; rw [h5]
        simp

theorem mor_msk : ∀ (m : Nat) (v : Int) (r : List Int) (u : Int), mor m v r = some u → msk m v r = u
  | 0, v, r, u, h => by simpa [mor, msk] using h
  | m + 1, v, [], u, h => by simp [mor] at h
  | m + 1, v, d :: r, u, h => by
    simp only [mor] at h
    split at h
    · rename_i hc
      unfold cont at hc
      simp only [msk]
      have e : d % 64 = d - 128 := by omega
      rw [e]
      exact mor_msk m _ r u h
    · cases h
theorem headN_msk {n : Nat} {v : Int} {r : List Int} {p : Int} {q : Nat} (h : headN n v r = some (p, q)) : q = n ∧ msk (n - 1) v r = p := by
  unfold headN at h
  split at h
  · rename_i u hu
    split at h
    · simp only [Option.some.injEq, Prod.mk.injEq] at h
      obtain ⟨rfl, rfl⟩ := h
      exact ⟨rfl, mor_msk _ _ _ _ hu⟩
    · cases h
  · cases h

theorem first_ev (b : List Int) (hb : Bytes b) (hne : 0 < b.length) (k : Nat) (hk : 12 ≤ k) : gangwayref1_first.f k b = some (match head b with | some (p, q) => (p, (q : Int)) | none => (0, 0)) := by
  cases b with
  | nil => simp at hne
  | cons c r =>
    have hg := hb.2 c (by simp)
    unfold gangwayref1_first.f
    rw [if_pos (by simp), show rd (c :: r) 0 = c from rfl]
    by_cases h4 : c ≥ 240
    · rw [if_pos h4, u8_and7 _ hg.1 (by omega), w32 (by omega) (by omega)]
      refine first_n (c :: r) hb 4 (by omega) (by omega) (c % 8) (by omega) (by omega) ?_ k hk
      intro p q h
      by_cases h8 : c < 248
      · rw [head4 h4 h8] at h
        rw [show c % 8 = c - 240 by omega]
        exact headN_msk h
      · simp only [head] at h
        rw [if_neg (by omega), if_neg (by omega), if_neg (by omega), if_neg (by omega), if_neg (by omega)] at h
        cases h
    rw [if_neg h4]
    by_cases h3 : c ≥ 224
    · rw [if_pos h3, u8_and15 _ hg.1 (by omega), w32 (by omega) (by omega)]
      refine first_n (c :: r) hb 3 (by omega) (by omega) (c % 16) (by omega) (by omega) ?_ k hk
      intro p q h
      rw [head3 h3 (by omega)] at h
      rw [show c % 16 = c - 224 by omega]
      exact headN_msk h
    rw [if_neg h3]
    by_cases h2 : c ≥ 192
    · rw [if_pos h2, u8_and31 _ hg.1 (by omega), w32 (by omega) (by omega)]
      refine first_n (c :: r) hb 2 (by omega) (by omega) (c % 32) (by omega) (by omega) ?_ k hk
      intro p q h
      rw [head2 h2 (by omega)] at h
      rw [show c % 32 = c - 192 by omega]
      exact headN_msk h
    rw [if_neg h2]
    by_cases h1 : c ≥ 128
    · rw [if_pos h1]
      simp only [head]
      rw [if_neg (by omega), if_pos (by omega)]
    rw [if_neg h1, w32 (by omega) (by omega)]
    refine first_n (c :: r) hb 1 (by omega) (by omega) c (by omega) (by omega) ?_ k hk
    intro p q h
    simp only [head] at h
    rw [if_pos (by omega)] at h
    simp only [Option.some.injEq, Prod.mk.injEq] at h
    exact ⟨h.2.symm, h.1⟩

def outQ : Option (List Int) → List Int × Bool
  | none => ([], false)
  | some l => (l, true)
theorem rpoints_l0 : ∀ (d : Nat) (b acc : List Int), Bytes b → b.length ≤ d → acc.length + b.length ≤ 200000 → ∀ k, d + 14 < k →
    gangwayref1_Points.l0 k b acc = some (outQ ((pts d b).map (acc ++ ·))) := by
  intro d
  induction d with
  | zero =>
    intro b acc hb hd hacc k hk
    obtain ⟨k, rfl⟩ : ∃ m, k = m + 1 := ⟨k - 1, by omega⟩
    simp only [gangwayref1_Points.l0]
    rw [if_neg (by omega), pts_zero _ (List.length_eq_zero_iff.1 (by omega))]
    simp [outQ]
  | succ d ih =>
    intro b acc hb hd hacc k hk
    obtain ⟨k, rfl⟩ : ∃ m, k = m + 1 := ⟨k - 1, by omega⟩
    simp only [gangwayref1_Points.l0]
    by_cases hl : 0 < b.length
    · rw [if_pos (by omega), first_ev b hb hl k (by omega), Option.bind_some]
      have hpt : pts (d + 1) b = (match head b with | none => none | some (p, n) => (pts d (b.drop n)).map (p :: ·)) := by
        cases b with
        | nil => simp at hl
        | cons c r => rfl
      rw [hpt]
      cases hh : head b with
      | none => simp [outQ]
      | some q =>
        obtain ⟨p, n⟩ := q
        have hle := head_le hh (fun x hx => (hb.2 x hx).1)
        simp only
        rw [if_neg (by omega), if_pos (by omega), if_pos (by omega), if_pos (by omega), Int.toNat_natCast, ih (b.drop n) (acc ++ [p]) (hb.drop n) (by simp; omega) (by simp; omega) k (by omega)]
        simp only [Option.map_map]
        congr 2
        congr 1
        funext l
        simp
    · rw [if_neg (by omega), pts_zero _ (List.length_eq_zero_iff.1 (by omega))]
      simp [outQ]
theorem rpoints_ev (b : List Int) (hb : Bytes b) (k : Nat) (hk : b.length + 15 ≤ k) : gangwayref1_Points.f k b = some (outQ (pts b.length b)) := by
  have := rpoints_l0 b.length b [] hb (by omega) (by have := hb.1; simp; omega) k (by omega)
  simp only [List.nil_append, Option.map_id'] at this
  exact this

end Go.Proofs.Ytlggampmmlkkeaa.Q
