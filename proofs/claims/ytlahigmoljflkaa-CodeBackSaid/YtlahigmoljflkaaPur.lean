import Derived.Test.YtlahigmoljflkaaWWords
import Derived.Test.YtlahigmoljflkaaWLast
import Derived.Test.YtlahigmoljflkaaWMore
import Derived.Laws.BitsLemmas
/- Plain lemmas on numbers and lists of bytes, for the pure statements. -/
namespace Go.Proofs.YtlahigmoljflkaaU
open Go.RowKit Go.Proofs.YtlahigmoljflkaaW.PrintWords Go.Proofs.YtlahigmoljflkaaW.PrintLast Go.Proofs.YtlahigmoljflkaaW.PrintMore
set_option linter.unusedVariables false

theorem w64 {x : Int} (h0 : -9223372036854775808 ≤ x) (h1 : x ≤ 9223372036854775807) : wrap64 x = x := by
  unfold wrap64
  omega

theorem w32 {x : Int} (h0 : -2147483648 ≤ x) (h1 : x ≤ 2147483647) : wrap32 x = x := by
  unfold wrap32
  omega

theorem wu64 (x : Int) : IntKind.u64.wrap x = x % 18446744073709551616 := by
  simp [IntKind.wrap, IntKind.signed, IntKind.bits]

theorem bd64 {x : Int} (h : (Lit.int .i64 x).wf = true) : -9223372036854775808 ≤ x ∧ x ≤ 9223372036854775807 := by
  simpa [Lit.wf, IntKind.min, IntKind.max, IntKind.signed, IntKind.bits] using h

theorem bd8 {x : Int} (h : (Lit.int .u8 x).wf = true) : 0 ≤ x ∧ x ≤ 255 := by
  simpa [Lit.wf, IntKind.min, IntKind.max, IntKind.signed, IntKind.bits] using h

theorem rd_nat (xs : List Int) (i : Nat) : rd xs (i : Int) = xs.getD i 0 := rfl

theorem ite_dec {c p : Prop} [Decidable c] [Decidable p] {A : Option Bool} (h : c → A = some (decide p)) : (if c then A else some false) = some (decide (c ∧ p)) := by
  by_cases hc : c
  · rw [if_pos hc, h hc]; simp [hc]
  · rw [if_neg hc]; simp [hc]
theorem bind_dec {c p : Prop} [Decidable c] [Decidable p] {A : Option Bool} (h : c → A = some (decide p)) : ((some (decide c)).bind fun t => if t = true then A else some false) = some (decide (c ∧ p)) := by
  by_cases hc : c
  · simp [hc, h hc]
  · simp [hc]
theorem byteall (p : Int → Bool) (h : (List.range 256).all (fun c => p c) = true) (c : Int) (h0 : 0 ≤ c) (h1 : c ≤ 255) : p c = true := by
  have := List.all_eq_true.1 h c.toNat (by simp; omega)
  rwa [Int.toNat_of_nonneg h0] at this

theorem bits_or (k : IntKind) (a b : Int) : Go.bits .or k a b = k.wrap (((a % 2 ^ k.bits).toNat ||| (b % 2 ^ k.bits).toNat : Nat) : Int) := by
  simp only [Go.bits, BitVec.toNat_or, BitVec.toNat_ofInt]
  rfl

theorem bits_or64 (a b : Int) : Go.bits .or .u64 a b = (((a % 18446744073709551616).toNat ||| (b % 18446744073709551616).toNat : Nat) : Int) % 18446744073709551616 := by
  rw [bits_or, wu64]
  rfl

theorem nat_or_add {x y p : Nat} (hx : x < 2 ^ p) : x ||| 2 ^ p * y = x + 2 ^ p * y := by
  rw [Nat.or_comm, ← Nat.two_pow_add_eq_or_of_lt hx y, Nat.add_comm]

/-- A number below 2^p, and a multiple of 2^p. -/
theorem or64 {x y : Int} {p : Nat} (hp : p ≤ 64) (h0 : 0 ≤ x) (hx : x < 2 ^ p) (hy : 0 ≤ y) (h1 : y < 18446744073709551616) (hm : y % 2 ^ p = 0) : Go.bits .or .u64 x y = x + y := by
  obtain ⟨a, rfl⟩ := Int.eq_ofNat_of_zero_le h0
  obtain ⟨b, rfl⟩ := Int.eq_ofNat_of_zero_le hy
  have hpp : (2 : Nat) ^ p ≤ 2 ^ 64 := Nat.pow_le_pow_right (by decide) hp
  have ha : a < 2 ^ p := by exact_mod_cast hx
  have hb : b < 2 ^ 64 := by omega
  have hd : b % 2 ^ p = 0 := by exact_mod_cast hm
  have hq : b = 2 ^ p * (b / 2 ^ p) := by have := Nat.div_add_mod b (2 ^ p); omega
  have hb2 : b < 18446744073709551616 := by omega
  have ha2 : a < 18446744073709551616 := by omega
  have e1 : ((a : Int) % 18446744073709551616).toNat = a := by omega
  have e2 : ((b : Int) % 18446744073709551616).toNat = b := by omega
  rw [bits_or64]
  rw [e1, e2, hq, nat_or_add ha, ← hq]
  have hs : a + b < 2 ^ 64 := by
    have h3 : b / 2 ^ p < 2 ^ (64 - p) := by
      rw [Nat.div_lt_iff_lt_mul (Nat.two_pow_pos p), ← Nat.pow_add, Nat.sub_add_cancel hp]
      exact hb
    have h4 : 2 ^ p * (b / 2 ^ p + 1) ≤ 2 ^ p * 2 ^ (64 - p) := Nat.mul_le_mul_left _ h3
    rw [← Nat.pow_add, Nat.add_sub_cancel' hp, Nat.mul_add] at h4
    omega
  omega

theorem bits_or_i64 (a b : Int) : Go.bits .or .i64 a b = wrap64 (((a % 18446744073709551616).toNat ||| (b % 18446744073709551616).toNat : Nat) : Int) := by
  have e : (2 : Int) ^ IntKind.i64.bits = 18446744073709551616 := by simp [IntKind.bits]
  rw [bits_or, IntKind.wrap_i64, e, wrap64]

theorem and127 {c : Int} (h0 : 0 ≤ c) (h1 : c ≤ 255) : Go.bits .and .u8 c 127 = c % 128 := bits_mask .u8 8 (by decide) wraps_u8 7 (by decide) c h0 (by omega)

end Go.Proofs.YtlahigmoljflkaaU
