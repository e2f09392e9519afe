/- What utf's Points and Bytes, and the reference's, come to. -/
import Derived.Test.YtlggampmmlkkeaaPAllx2
import Derived.Test.YtlggampmmlkkeaaPAllx3
import Derived.Test.YtlggampmmlkkeaaPAllx5
import Derived.Test.YtlggampmmlkkeaaPAllx1
import Derived.Test.YtlggampmmlkkeaaPAllx4
import Derived.Test.YtlggampmmlkkeaaQUtf
namespace Go.Proofs.Ytlggampmmlkkeaa.Q
open Go.RowKit Go.Proofs.Ytlggampmmlkkeaa.PAll Go.Proofs.YtlggampmmlkkeaaW.PrintWords Go.Proofs.YtlggampmmlkkeaaW.PrintLast Go.Proofs.YtlggampmmlkkeaaW.PrintMore Go.Proofs.YtlggampmmlkkeaaU
set_option linter.unusedVariables false

def Bytes (b : List Int) : Prop := b.length < 100000 ∧ ∀ x ∈ b, 0 ≤ x ∧ x ≤ 255
theorem Bytes.get {b : List Int} (h : Bytes b) (i : Nat) : 0 ≤ b.getD i 0 ∧ b.getD i 0 ≤ 255 := by
  rcases Nat.lt_or_ge i b.length with hi | hi
  · rw [List.getD_eq_getElem?_getD, List.getElem?_eq_getElem hi]
    exact h.2 _ (List.getElem_mem hi)
  · rw [List.getD_eq_getElem?_getD, List.getElem?_eq_none hi]
    simp
theorem Bytes.drop {b : List Int} (h : Bytes b) (n : Nat) : Bytes (b.drop n) := ⟨by have := h.1; simp; omega, fun x hx => h.2 x (List.mem_of_mem_drop hx)⟩
theorem drop_cons {b : List Int} {i : Nat} (h : i < b.length) : b.drop i = b.getD i 0 :: b.drop (i + 1) := by
  rw [List.drop_eq_getElem_cons h, List.getD_eq_getElem?_getD, List.getElem?_eq_getElem h]
  rfl

theorem may_eq (p : Int) : utf_may.f p = some (decide (May p)) := by
  unfold utf_may.f May
  refine ite_dec fun h1 => ite_dec fun h2 => ?_
  by_cases h : p < 55296
  · simp [h]
  · simp [h]
theorem point_eq (p : Int) : gangwayref1_Point.f p = some (decide (May p)) := by
  unfold gangwayref1_Point.f May
  refine ite_dec fun h1 => ite_dec fun h2 => ?_
  by_cases h : p < 55296
  · simp [h]
  · simp [h]

theorem c192 {c : Int} (h0 : 0 ≤ c) (h1 : c ≤ 255) : (Go.bits .and .u8 c 192 = 128) ↔ cont c := by
  have := byteall (fun c => decide (Go.bits .and .u8 c 192 = 128) == decide (128 ≤ c ∧ c < 192)) (by decide +kernel) c h0 h1
  exact decide_eq_decide.1 (beq_iff_eq.1 this)
theorem c224 {c : Int} (h0 : 0 ≤ c) (h1 : c ≤ 255) : (Go.bits .and .u8 c 224 = 192) ↔ (192 ≤ c ∧ c < 224) := by
  have := byteall (fun c => decide (Go.bits .and .u8 c 224 = 192) == decide (192 ≤ c ∧ c < 224)) (by decide +kernel) c h0 h1
  exact decide_eq_decide.1 (beq_iff_eq.1 this)
theorem c240 {c : Int} (h0 : 0 ≤ c) (h1 : c ≤ 255) : (Go.bits .and .u8 c 240 = 224) ↔ (224 ≤ c ∧ c < 240) := by
  have := byteall (fun c => decide (Go.bits .and .u8 c 240 = 224) == decide (224 ≤ c ∧ c < 240)) (by decide +kernel) c h0 h1
  exact decide_eq_decide.1 (beq_iff_eq.1 this)
theorem c248 {c : Int} (h0 : 0 ≤ c) (h1 : c ≤ 255) : (Go.bits .and .u8 c 248 = 240) ↔ (240 ≤ c ∧ c < 248) := by
  have := byteall (fun c => decide (Go.bits .and .u8 c 248 = 240) == decide (240 ≤ c ∧ c < 248)) (by decide +kernel) c h0 h1
  exact decide_eq_decide.1 (beq_iff_eq.1 this)

/-- One byte more, as both texts reckon it. -/
theorem shl6 {v c : Int} (hv : 0 ≤ v) (hv2 : v < 33554432) (h0 : 0 ≤ c) (h1 : c ≤ 255) : Go.bits .or .i32 (wrap32 (v * 64)) (wrap32 (Go.bits .and .u8 c 63)) = v * 64 + c % 64 := by
  rw [u8_and63 c h0 (by omega), w32 (x := v * 64) (by omega) (by omega), w32 (x := c % 64) (by omega) (by omega)]
  exact i32_or6 _ _ (by omega) (by omega) (by omega) (by omega) (by omega)

/-- The bytes that go on: as many as asked, or not. -/
def mor : Nat → Int → List Int → Option Int
  | 0, v, _ => some v
  | n + 1, v, d :: r => if cont d then mor n (v * 64 + (d - 128)) r else none
  | n + 1, v, [] => none

theorem more_ev (b : List Int) (hb : Bytes b) (n : Nat) (hn : n ≤ 3) : ∀ (m i a : Nat) (v : Int), i + m = n → a ≤ b.length → 0 ≤ v → (v + 1) * 64 ^ m ≤ 2147483648 → ∀ k, m < k →
    ∃ w z : Int, utf_text_more.l0 k v (n : Int) (i : Int) b (a : Int) = some (match mor m v (b.drop a) with | some u => (u, true, ((a + m : Nat) : Int)) | none => (w, false, z)) := by
  have hl := hb.1
  intro m
  induction m with
  | zero =>
    intro i a v hi ha hv hv2 k hk
    obtain ⟨k, rfl⟩ : ∃ m, k = m + 1 := ⟨k - 1, by omega⟩
    refine ⟨0, 0, ?_⟩
    simp only [utf_text_more.l0, mor]
    rw [if_neg (by omega)]
    rfl
  | succ m ih =>
    intro i a v hi ha hv hv2 k hk
    obtain ⟨k, rfl⟩ : ∃ m, k = m + 1 := ⟨k - 1, by omega⟩
    simp only [utf_text_more.l0]
    rw [if_pos (by omega)]
    by_cases he : a = b.length
    · subst he
      refine ⟨0, (b.length : Int), ?_⟩
      simp [mor]
    · have ha2 : a < b.length := by omega
      have hg := hb.get a
      rw [if_neg (by omega), if_pos (by omega), if_pos (by omega), rd_nat, drop_cons ha2]
      simp only [mor]
      by_cases hc : cont (b.getD a 0)
      · have hpw : (0 : Int) < 64 ^ m := Int.pow_pos (by decide)
        have e5 : (v + 1) * 64 ^ (m + 1) = (v + 1) * 64 * 64 ^ m := by rw [Int.pow_succ, Int.mul_comm (64 ^ m) 64, ← Int.mul_assoc]
        have h5 : (v + 1) * 64 * 1 ≤ (v + 1) * 64 * 64 ^ m := Int.mul_le_mul_of_nonneg_left (by omega) (by omega)
        rw [e5] at hv2
        have hlt : v < 33554432 := by omega
        have hc2 := hc
        unfold cont at hc2
        rw [if_pos ((c192 hg.1 hg.2).2 hc), if_pos hc, shl6 hv hlt hg.1 hg.2, w64 (by omega) (by omega), w64 (by omega) (by omega)]
        have e : b.getD a 0 % 64 = b.getD a 0 - 128 := by omega
        rw [e]
        have hinv : (v * 64 + (b.getD a 0 - 128) + 1) * 64 ^ m ≤ 2147483648 := by
          refine Int.le_trans (Int.mul_le_mul_of_nonneg_right ?_ (by omega)) hv2
          omega
        obtain ⟨w, z, h⟩ := ih (i + 1) (a + 1) (v * 64 + (b.getD a 0 - 128)) (by omega) (by omega) (by omega) hinv k (by omega)
        refine ⟨w, z, ?_⟩
        rw [show ((i : Int) + 1) = ((i + 1 : Nat) : Int) by omega, show ((a : Int) + 1) = ((a + 1 : Nat) : Int) by omega, h]
        have : a + 1 + m = a + (m + 1) := by omega
        rw [this]
      · rw [if_neg (fun h => hc ((c192 hg.1 hg.2).1 h)), if_neg hc]
        exact ⟨0, (a : Int), rfl⟩

/-- What text.point comes to. -/
def PointIs (b : List Int) (a : Nat) (r : Int × Bool × Int) : Prop :=
  match head (b.drop a) with
  | some (p, n) => r = (p, true, ((a + n : Nat) : Int))
  | none => r.2.1 = false

theorem least_eq (n : Nat) (h : 1 ≤ n) (h4 : n ≤ 4) : utf_least.f (n : Int) = some ([0, 128, 2048, 65536].getD (n - 1) 0) := by
  unfold utf_least.f
  rw [Option.bind_some, w64 (by omega) (by omega), if_pos (by omega), if_pos (by simp; omega)]
  have : n = 1 ∨ n = 2 ∨ n = 3 ∨ n = 4 := by omega
  rcases this with rfl | rfl | rfl | rfl <;> rfl

theorem point_tail (v at_ : Int) (ok : Bool) (n : Nat) (hn : 1 ≤ n) (h4 : n ≤ 4) :
    (if ok = true then ((utf_least.f (n : Int)).bind fun t => if v ≥ t then ((utf_may.f v).bind fun m => some (v, m, at_)) else some (v, false, at_)) else some (v, false, at_)) =
      some (v, decide (ok = true ∧ [0, 128, 2048, 65536].getD (n - 1) 0 ≤ v ∧ May v), at_) := by
  rw [least_eq n hn h4, may_eq]
  generalize ([0, 128, 2048, 65536] : List Int).getD (n - 1) 0 = L
  simp only [Option.bind_some]
  cases ok with
  | false => simp
  | true =>
    rw [if_pos rfl]
    by_cases h : L ≤ v
    · rw [if_pos h]; simp [h]
    · rw [if_neg h]; simp [h]

def lst (n : Nat) : Int := [0, 128, 2048, 65536].getD (n - 1) 0
/-- A point of n bytes, whose first one leaves v. -/
def headN (n : Nat) (v : Int) (r : List Int) : Option (Int × Nat) :=
  match mor (n - 1) v r with
  | some u => if lst n ≤ u ∧ May u then some (u, n) else none
  | none => none

theorem head2 {c : Int} (h1 : 192 ≤ c) (h2 : c < 224) (r : List Int) : head (c :: r) = headN 2 (c - 192) r := by
  simp only [head, headN]
  rw [if_neg (by omega), if_neg (by omega), if_pos (by omega)]
  cases r with
  | nil => rfl
  | cons d r =>
    simp only [mor, Nat.add_one_sub_one]
    by_cases hc : cont d
    · have hc2 := hc
      unfold cont at hc2
      simp only [hc, true_and, if_true]
      by_cases h : 128 ≤ (c - 192) * 64 + (d - 128)
      · rw [if_pos h, if_pos ⟨h, by unfold May; omega⟩]
      · rw [if_neg h, if_neg (fun z => h z.1)]
    · simp [hc]
theorem head3 {c : Int} (h1 : 224 ≤ c) (h2 : c < 240) (r : List Int) : head (c :: r) = headN 3 (c - 224) r := by
  simp only [head, headN]
  rw [if_neg (by omega), if_neg (by omega), if_neg (by omega), if_pos (by omega)]
  match r with
  | [] => rfl
  | [d] => simp only [mor]; split <;> simp_all
  | d :: e :: r =>
    simp only [mor]
    by_cases hc : cont d
    · by_cases he : cont e
      · simp only [hc, he, true_and, if_true]
        have : ((c - 224) * 64 + (d - 128)) * 64 + (e - 128) = (c - 224) * 4096 + (d - 128) * 64 + (e - 128) := by omega
        rw [this]
        rfl
      · simp [hc, he]
    · simp [hc]
theorem head4 {c : Int} (h1 : 240 ≤ c) (h2 : c < 248) (r : List Int) : head (c :: r) = headN 4 (c - 240) r := by
  simp only [head, headN]
  rw [if_neg (by omega), if_neg (by omega), if_neg (by omega), if_neg (by omega), if_pos (by omega)]
  match r with
  | [] => rfl
  | [d] => simp only [mor]; split <;> simp_all
  | [d, e] => simp only [mor]; (repeat' split) <;> simp_all
  | d :: e :: f :: r =>
    simp only [mor]
    by_cases hc : cont d
    · by_cases he : cont e
      · by_cases hf : cont f
        · simp only [hc, he, hf, true_and, if_true]
          have : (((c - 240) * 64 + (d - 128)) * 64 + (e - 128)) * 64 + (f - 128) = (c - 240) * 262144 + (d - 128) * 4096 + (e - 128) * 64 + (f - 128) := by omega
          rw [this]
          rfl
        · simp [hc, he, hf]
      · simp [hc, he]
    · simp [hc]

theorem point_n (b : List Int) (hb : Bytes b) (a n : Nat) (ha : a < b.length) (hn : 2 ≤ n) (h4 : n ≤ 4) (v : Int) (hv : 0 ≤ v) (hv2 : (v + 1) * 64 ^ (n - 1) ≤ 2147483648) (hh : head (b.drop a) = headN n v (b.drop (a + 1))) (k : Nat) (hk : 5 ≤ k) :
    ∃ r, ((utf_text_more.f k b ((a + 1 : Nat) : Int) v ((n - 1 : Nat) : Int)).bind fun bt => (if bt.2.1 = true then ((utf_least.f (n : Int)).bind fun t => if bt.1 ≥ t then ((utf_may.f bt.1).bind fun m => some (bt.1, m, bt.2.2)) else some (bt.1, false, bt.2.2)) else some (bt.1, false, bt.2.2))) = some r ∧ PointIs b a r := by
  obtain ⟨w, z, h⟩ := more_ev b hb (n - 1) (by omega) (n - 1) 0 (a + 1) v (by omega) (by omega) hv hv2 k (by omega)
  unfold utf_text_more.f
  rw [show utf_text_more.l0 k v ((n - 1 : Nat) : Int) 0 b ((a + 1 : Nat) : Int) = _ from h, Option.bind_some]
  refine ⟨_, point_tail _ _ _ n (by omega) h4, ?_⟩
  unfold PointIs
  rw [hh]
  unfold headN
  cases hm : mor (n - 1) v (b.drop (a + 1)) with
  | none => simp
  | some u =>
    simp only [true_and]
    by_cases hl : lst n ≤ u ∧ May u
    · rw [if_pos hl]
      have : decide (lst n ≤ u ∧ May u) = true := decide_eq_true hl
      unfold lst at this
      simp only [this]
      have : a + 1 + (n - 1) = a + n := by omega
      rw [this]
    · rw [if_neg hl]
      have : decide (lst n ≤ u ∧ May u) = false := decide_eq_false hl
      unfold lst at this
      simp only [this]

theorem point_ev (b : List Int) (hb : Bytes b) (a : Nat) (ha : a < b.length) (k : Nat) (hk : 5 ≤ k) : ∃ r, utf_text_point.f k b (a : Int) = some r ∧ PointIs b a r := by
  have hg := hb.get a
  have hl := hb.1
  have e1 : wrap64 ((a : Int) + 1) = ((a + 1 : Nat) : Int) := by rw [w64 (by omega) (by omega)]; omega
  have hd := drop_cons ha
  have P := point_n b hb a
  unfold utf_text_point.f
  rw [if_pos (by omega), if_pos (by omega), rd_nat, e1]
  by_cases h1 : b.getD a 0 < 128
  · rw [if_pos h1]
    refine ⟨_, rfl, ?_⟩
    unfold PointIs
    rw [hd]
    rw [w32 (x := b.getD a 0) (by omega) (by omega)]
    simp only [head]
    rw [if_pos h1]
  rw [if_neg h1]
  by_cases h2 : Go.bits .and .u8 (b.getD a 0) 224 = 192
  · have hr := (c224 hg.1 hg.2).1 h2
    have hm : Go.bits .and .u8 (b.getD a 0) 31 = b.getD a 0 - 192 := by rw [u8_and31 _ hg.1 (by omega)]; omega
    rw [if_pos h2, hm, w32 (by omega) (by omega)]
    exact P 2 ha (by omega) (by omega) _ (by omega) (by omega) (by rw [hd]; exact head2 hr.1 hr.2 _) k hk
  rw [if_neg h2]
  by_cases h3 : Go.bits .and .u8 (b.getD a 0) 240 = 224
  · have hr := (c240 hg.1 hg.2).1 h3
    have hm : Go.bits .and .u8 (b.getD a 0) 15 = b.getD a 0 - 224 := by rw [u8_and15 _ hg.1 (by omega)]; omega
    rw [if_pos h3, hm, w32 (by omega) (by omega)]
    exact P 3 ha (by omega) (by omega) _ (by omega) (by omega) (by rw [hd]; exact head3 hr.1 hr.2 _) k hk
  rw [if_neg h3]
  by_cases h4 : Go.bits .and .u8 (b.getD a 0) 248 = 240
  · have hr := (c248 hg.1 hg.2).1 h4
    have hm : Go.bits .and .u8 (b.getD a 0) 7 = b.getD a 0 - 240 := by rw [u8_and7 _ hg.1 (by omega)]; omega
    rw [if_pos h4, hm, w32 (by omega) (by omega)]
    exact P 4 ha (by omega) (by omega) _ (by omega) (by omega) (by rw [hd]; exact head4 hr.1 hr.2 _) k hk
  rw [if_neg h4]
  refine ⟨_, rfl, ?_⟩
  unfold PointIs
  have n2 : ¬ (192 ≤ b.getD a 0 ∧ b.getD a 0 < 224) := fun h => h2 ((c224 hg.1 hg.2).2 h)
  have n3 : ¬ (224 ≤ b.getD a 0 ∧ b.getD a 0 < 240) := fun h => h3 ((c240 hg.1 hg.2).2 h)
  have n4 : ¬ (240 ≤ b.getD a 0 ∧ b.getD a 0 < 248) := fun h => h4 ((c248 hg.1 hg.2).2 h)
  have hn : head (b.drop a) = none := by
    rw [hd]
    simp only [head]
    rw [if_neg h1]
    by_cases h5 : b.getD a 0 < 192
    · rw [if_pos h5]
    · rw [if_neg h5, if_neg (by omega), if_neg (by omega), if_neg (by omega)]
  rw [hn]

/-- The code points of any text. -/
def outP : Option (List Int) → List Int × Int
  | none => ([], 100)
  | some l => (l, 0)
theorem pts_zero (b : List Int) (h : b = []) (d : Nat) : pts d b = some [] := by subst h; cases d <;> rfl

theorem points_l0 (b : List Int) (hb : Bytes b) : ∀ (d a : Nat) (acc : List Int), b.length - a ≤ d → a ≤ b.length → acc.length + (b.length - a) ≤ 200000 → ∀ k, d + 6 < k →
    utf_Points.l0 k b acc b (a : Int) = some (outP ((pts d (b.drop a)).map (acc ++ ·))) := by
  intro d
  induction d with
  | zero =>
    intro a acc hd ha hacc k hk
    obtain ⟨k, rfl⟩ : ∃ m, k = m + 1 := ⟨k - 1, by omega⟩
    simp only [utf_Points.l0]
    rw [if_neg (by omega), pts_zero _ (by rw [List.drop_eq_nil_iff]; omega)]
    simp [outP]
  | succ d ih =>
    intro a acc hd ha hacc k hk
    obtain ⟨k, rfl⟩ : ∃ m, k = m + 1 := ⟨k - 1, by omega⟩
    simp only [utf_Points.l0]
    by_cases hl : a < b.length
    · rw [if_pos (by omega)]
      obtain ⟨r, hr, hp⟩ := point_ev b hb a hl k (by omega)
      rw [hr, Option.bind_some]
      unfold PointIs at hp
      have hne : b.drop a = b.getD a 0 :: b.drop (a + 1) := drop_cons hl
      have hpt : pts (d + 1) (b.drop a) = (match head (b.drop a) with | none => none | some (p, n) => (pts d ((b.drop a).drop n)).map (p :: ·)) := by
        rw [hne]; rfl
      rw [hpt]
      cases hh : head (b.drop a) with
      | none =>
        rw [hh] at hp
        simp only at hp
        rw [if_neg (by simp [hp])]
        rfl
      | some q =>
        obtain ⟨p, n⟩ := q
        rw [hh] at hp
        simp only at hp
        subst hp
        have hle := head_le hh (fun x hx => (hb.2 x (List.mem_of_mem_drop hx)).1)
        simp only [List.length_drop] at hle
        simp only [if_true]
        rw [if_pos (by omega), ih (a + n) (acc ++ [p]) (by omega) (by omega) (by simp; omega) k (by omega)]
        simp only [List.drop_drop, Option.map_map]
        congr 2
        congr 1
        funext l
        simp
    · rw [if_neg (by omega), pts_zero _ (by rw [List.drop_eq_nil_iff]; omega)]
      simp [outP]

theorem points_ev (b : List Int) (hb : Bytes b) (k : Nat) (hk : b.length + 7 ≤ k) : utf_Points.f k b = some (outP (pts b.length b)) := by
  have := points_l0 b hb b.length 0 [] (by omega) (by omega) (by have := hb.1; simp; omega) k (by omega)
  simp only [List.drop_zero, List.nil_append, Option.map_id'] at this
  exact this
theorem check_ev (b : List Int) (hb : Bytes b) (k : Nat) (hk : b.length + 7 ≤ k) : utf_Check.f k b = some (if (pts b.length b).isSome then 0 else 100) := by
  unfold utf_Check.f
  rw [points_ev b hb k hk, Option.bind_some]
  cases pts b.length b <;> rfl

end Go.Proofs.Ytlggampmmlkkeaa.Q
