/- Plain lemmas on numbers and lists of bytes, for the pure statements. -/
import Derived.Test.YtdoaininjfbemaaWWords
import Derived.Test.YtdoaininjfbemaaWLast
import Derived.Test.YtdoaininjfbemaaWMore
import Derived.Laws.BitsLemmas
namespace Go.Proofs.YtdoaininjfbemaaU
open Go.RowKit Go.Proofs.YtdoaininjfbemaaW.PrintWords Go.Proofs.YtdoaininjfbemaaW.PrintLast Go.Proofs.YtdoaininjfbemaaW.PrintMore
set_option linter.unusedVariables false

theorem w64 {x : Int} (h0 : -9223372036854775808 ≤ x) (h1 : x ≤ 9223372036854775807) : wrap64 x = x := by
  unfold wrap64
  omega

theorem w32 {x : Int} (h0 : -2147483648 ≤ x) (h1 : x ≤ 2147483647) : wrap32 x = x := by
  unfold wrap32
  omega

theorem wu64 (x : Int) : IntKind.u64.wrap x = x % 18446744073709551616 := by
  simp [IntKind.wrap, IntKind.signed, IntKind.bits]

theorem bd64 {x : Int} (h : (Lit.int .i64 x).wf = true) : -9223372036854775808 ≤ x ∧ x ≤ 9223372036854775807 := by
  simpa [Lit.wf, IntKind.min, IntKind.max, IntKind.signed, IntKind.bits] using h

theorem bdu64 {x : Int} (h : (Lit.int .u64 x).wf = true) : 0 ≤ x ∧ x ≤ 18446744073709551615 := by
  simpa [Lit.wf, IntKind.min, IntKind.max, IntKind.signed, IntKind.bits] using h

theorem bd8 {x : Int} (h : (Lit.int .u8 x).wf = true) : 0 ≤ x ∧ x ≤ 255 := by
  simpa [Lit.wf, IntKind.min, IntKind.max, IntKind.signed, IntKind.bits] using h

theorem bd32 {x : Int} (h : (Lit.int .i32 x).wf = true) : -2147483648 ≤ x ∧ x ≤ 2147483647 := by
  simpa [Lit.wf, IntKind.min, IntKind.max, IntKind.signed, IntKind.bits] using h

/-- The n lowest bytes of a number, the lowest first. -/
def le (v : Int) (n : Nat) : List Int := (List.range n).map fun j => v / 2 ^ (8 * j) % 256
theorem le_length (v : Int) (n : Nat) : (le v n).length = n := by simp [le]
theorem le_zero (v : Int) : le v 0 = [] := rfl
theorem le_succ (v : Int) (n : Nat) : le v (n + 1) = le v n ++ [v / 2 ^ (8 * n) % 256] := by simp [le, List.range_succ]
theorem div_wrap (v : Int) (j : Nat) (h : j < 8) : v % 18446744073709551616 / 2 ^ (8 * j) % 256 = v / 2 ^ (8 * j) % 256 := by
  have : j = 0 ∨ j = 1 ∨ j = 2 ∨ j = 3 ∨ j = 4 ∨ j = 5 ∨ j = 6 ∨ j = 7 := by omega
  rcases this with rfl | rfl | rfl | rfl | rfl | rfl | rfl | rfl <;> simp <;> omega
theorem le_wrap (v : Int) (n : Nat) (h : n ≤ 8) : le (v % 18446744073709551616) n = le v n := by
  simp only [le]
  apply List.map_congr_left
  intro j hj
  exact div_wrap v j (by simp at hj; omega)

/-- Bytes laid over others, from place i on. -/
def splice (b : List Int) (i : Nat) (p : List Int) : List Int := b.take i ++ p ++ b.drop (i + p.length)
theorem splice_length {b : List Int} {i : Nat} {p : List Int} (h : i + p.length ≤ b.length) : (splice b i p).length = b.length := by
  simp [splice]
  omega
theorem splice_nil (b : List Int) (i : Nat) : splice b i [] = b := by simp [splice]
theorem splice_set {b : List Int} {i : Nat} {p : List Int} (x : Int) (h : i + p.length < b.length) : (splice b i p).set (i + p.length) x = splice b i (p ++ [x]) := by
  have hl : (b.take i ++ p).length = i + p.length := by simp; omega
  have hd : b.drop (i + p.length) = b[i + p.length] :: b.drop (i + p.length + 1) := List.drop_eq_getElem_cons h
  simp only [splice, hd]
  rw [List.set_append_right _ _ (by omega), hl, Nat.sub_self]
  simp [Nat.add_assoc]
theorem splice_one {b : List Int} {i : Nat} (x : Int) (h : i < b.length) : b.set i x = splice b i [x] := by
  have := splice_set (b := b) (i := i) (p := []) x (by simpa using h)
  simpa [splice_nil] using this

theorem shr64 (k : IntKind) (hk : k = .i64 ∨ k = .u64) (v : Int) (n : Nat) (h : n ≤ 64) : shr k v (n : Int) = v / 2 ^ n := by
  unfold shr
  have : min ((n : Int).toNat) k.bits = n := by rcases hk with rfl | rfl <;> simp [IntKind.bits] <;> omega
  rw [this]

theorem rd_nat (xs : List Int) (i : Nat) : rd xs (i : Int) = xs.getD i 0 := rfl

theorem beq_cons_take {a b : List Int} {i : Nat} (ha : i < a.length) (hb : i < b.length) : a.drop i = b.drop i ↔ a.getD i 0 = b.getD i 0 ∧ a.drop (i + 1) = b.drop (i + 1) := by
  rw [List.drop_eq_getElem_cons ha, List.drop_eq_getElem_cons hb]
  simp only [List.cons.injEq, List.getD_eq_getElem?_getD, List.getElem?_eq_getElem ha, List.getElem?_eq_getElem hb, Option.getD_some]

theorem ite_dec {c p : Prop} [Decidable c] [Decidable p] {A : Option Bool} (h : c → A = some (decide p)) : (if c then A else some false) = some (decide (c ∧ p)) := by
  by_cases hc : c
  · rw [if_pos hc, h hc]; simp [hc]
  · rw [if_neg hc]; simp [hc]
theorem ite_dec2 {c d p : Prop} [Decidable c] [Decidable d] [Decidable p] {A : Option Bool} (h : c → d → A = some (decide p)) : (if c then (if d then A else some false) else some false) = some (decide ((c ∧ d) ∧ p)) := by
  by_cases hc : c <;> by_cases hd : d
  · rw [if_pos hc, if_pos hd, h hc hd]; simp [hc, hd]
  · simp [hc, hd]
  · simp [hc]
  · simp [hc]
theorem bind_dec {c p : Prop} [Decidable c] [Decidable p] {A : Option Bool} (h : c → A = some (decide p)) : ((some (decide c)).bind fun t => if t = true then A else some false) = some (decide (c ∧ p)) := by
  by_cases hc : c
  · simp [hc, h hc]
  · simp [hc]
theorem le_one (v : Int) : le v 1 = [v % 256] := by simp [le, List.range_succ]

theorem byteall (p : Int → Bool) (h : (List.range 256).all (fun c => p c) = true) (c : Int) (h0 : 0 ≤ c) (h1 : c ≤ 255) : p c = true := by
  have := List.all_eq_true.1 h c.toNat (by simp; omega)
  rwa [Int.toNat_of_nonneg h0] at this

theorem bits_or (k : IntKind) (a b : Int) : Go.bits .or k a b = k.wrap (((a % 2 ^ k.bits).toNat ||| (b % 2 ^ k.bits).toNat : Nat) : Int) := by
  simp only [Go.bits, BitVec.toNat_or, BitVec.toNat_ofInt]
  rfl

theorem bits_or64 (a b : Int) : Go.bits .or .u64 a b = (((a % 18446744073709551616).toNat ||| (b % 18446744073709551616).toNat : Nat) : Int) % 18446744073709551616 := by
  rw [bits_or, wu64]
  rfl

theorem nat_or_add {x y p : Nat} (hx : x < 2 ^ p) : x ||| 2 ^ p * y = x + 2 ^ p * y := by
  rw [Nat.or_comm, ← Nat.two_pow_add_eq_or_of_lt hx y, Nat.add_comm]

/-- A number below 2^p, and a multiple of 2^p. -/
theorem or64 {x y : Int} {p : Nat} (hp : p ≤ 64) (h0 : 0 ≤ x) (hx : x < 2 ^ p) (hy : 0 ≤ y) (h1 : y < 18446744073709551616) (hm : y % 2 ^ p = 0) : Go.bits .or .u64 x y = x + y := by
  obtain ⟨a, rfl⟩ := Int.eq_ofNat_of_zero_le h0
  obtain ⟨b, rfl⟩ := Int.eq_ofNat_of_zero_le hy
  have hpp : (2 : Nat) ^ p ≤ 2 ^ 64 := Nat.pow_le_pow_right (by decide) hp
  have ha : a < 2 ^ p := by exact_mod_cast hx
  have hb : b < 2 ^ 64 := by omega
  have hd : b % 2 ^ p = 0 := by exact_mod_cast hm
  have hq : b = 2 ^ p * (b / 2 ^ p) := by have := Nat.div_add_mod b (2 ^ p); omega
  have hb2 : b < 18446744073709551616 := by omega
  have ha2 : a < 18446744073709551616 := by omega
  have e1 : ((a : Int) % 18446744073709551616).toNat = a := by omega
  have e2 : ((b : Int) % 18446744073709551616).toNat = b := by omega
  rw [bits_or64]
  rw [e1, e2, hq, nat_or_add ha, ← hq]
  have hs : a + b < 2 ^ 64 := by
    have h3 : b / 2 ^ p < 2 ^ (64 - p) := by
      rw [Nat.div_lt_iff_lt_mul (Nat.two_pow_pos p), ← Nat.pow_add, Nat.sub_add_cancel hp]
      exact hb
    have h4 : 2 ^ p * (b / 2 ^ p + 1) ≤ 2 ^ p * 2 ^ (64 - p) := Nat.mul_le_mul_left _ h3
    rw [← Nat.pow_add, Nat.add_sub_cancel' hp, Nat.mul_add] at h4
    omega
  omega

theorem bits_and (k : IntKind) (a b : Int) : Go.bits .and k a b = k.wrap (((a % 2 ^ k.bits).toNat &&& (b % 2 ^ k.bits).toNat : Nat) : Int) := by
  simp only [Go.bits, BitVec.toNat_and, BitVec.toNat_ofInt]
  rfl
theorem bits_and_i64 (a b : Int) : Go.bits .and .i64 a b = wrap64 (((a % 18446744073709551616).toNat &&& (b % 18446744073709551616).toNat : Nat) : Int) := by
  have e : (2 : Int) ^ IntKind.i64.bits = 18446744073709551616 := by simp [IntKind.bits]
  rw [bits_and, IntKind.wrap_i64, e, wrap64]
theorem bits_and_u64 (a b : Int) : Go.bits .and .u64 a b = (((a % 18446744073709551616).toNat &&& (b % 18446744073709551616).toNat : Nat) : Int) % 18446744073709551616 := by
  rw [bits_and, wu64]
  rfl
theorem bits_or_i64 (a b : Int) : Go.bits .or .i64 a b = wrap64 (((a % 18446744073709551616).toNat ||| (b % 18446744073709551616).toNat : Nat) : Int) := by
  have e : (2 : Int) ^ IntKind.i64.bits = 18446744073709551616 := by simp [IntKind.bits]
  rw [bits_or, IntKind.wrap_i64, e, wrap64]

theorem and127 {c : Int} (h0 : 0 ≤ c) (h1 : c ≤ 255) : Go.bits .and .u8 c 127 = c % 128 := bits_mask .u8 8 (by decide) wraps_u8 7 (by decide) c h0 (by omega)


end Go.Proofs.YtdoaininjfbemaaU
