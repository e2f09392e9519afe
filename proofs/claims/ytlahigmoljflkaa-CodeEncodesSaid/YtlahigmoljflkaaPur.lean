import Derived.Test.YtlahigmoljflkaaWWords
import Derived.Test.YtlahigmoljflkaaWLast
import Derived.Test.YtlahigmoljflkaaWMore
import Derived.Laws.BitsLemmas
/- Plain lemmas on numbers and lists of bytes, for the pure statements. -/
namespace Go.Proofs.YtlahigmoljflkaaU
open Go.RowKit Go.Proofs.YtlahigmoljflkaaW.PrintWords Go.Proofs.YtlahigmoljflkaaW.PrintLast Go.Proofs.YtlahigmoljflkaaW.PrintMore
set_option linter.unusedVariables false

theorem w64 {x : Int} (h0 : -9223372036854775808 ≤ x) (h1 : x ≤ 9223372036854775807) : wrap64 x = x := by
  unfold wrap64
  omega

theorem w32 {x : Int} (h0 : -2147483648 ≤ x) (h1 : x ≤ 2147483647) : wrap32 x = x := by
  unfold wrap32
  omega

theorem wu64 (x : Int) : IntKind.u64.wrap x = x % 18446744073709551616 := by
  simp [IntKind.wrap, IntKind.signed, IntKind.bits]

theorem bd64 {x : Int} (h : (Lit.int .i64 x).wf = true) : -9223372036854775808 ≤ x ∧ x ≤ 9223372036854775807 := by
  simpa [Lit.wf, IntKind.min, IntKind.max, IntKind.signed, IntKind.bits] using h

theorem bd8 {x : Int} (h : (Lit.int .u8 x).wf = true) : 0 ≤ x ∧ x ≤ 255 := by
  simpa [Lit.wf, IntKind.min, IntKind.max, IntKind.signed, IntKind.bits] using h

theorem rd_nat (xs : List Int) (i : Nat) : rd xs (i : Int) = xs.getD i 0 := rfl

theorem beq_cons_take {a b : List Int} {i : Nat} (ha : i < a.length) (hb : i < b.length) : a.drop i = b.drop i ↔ a.getD i 0 = b.getD i 0 ∧ a.drop (i + 1) = b.drop (i + 1) := by
  rw [List.drop_eq_getElem_cons ha, List.drop_eq_getElem_cons hb]
  simp only [List.cons.injEq, List.getD_eq_getElem?_getD, List.getElem?_eq_getElem ha, List.getElem?_eq_getElem hb, Option.getD_some]

theorem ite_dec {c p : Prop} [Decidable c] [Decidable p] {A : Option Bool} (h : c → A = some (decide p)) : (if c then A else some false) = some (decide (c ∧ p)) := by
  by_cases hc : c
  · rw [if_pos hc, h hc]; simp [hc]
  · rw [if_neg hc]; simp [hc]
theorem bind_dec {c p : Prop} [Decidable c] [Decidable p] {A : Option Bool} (h : c → A = some (decide p)) : ((some (decide c)).bind fun t => if t = true then A else some false) = some (decide (c ∧ p)) := by
  by_cases hc : c
  · simp [hc, h hc]
  · simp [hc]
theorem byteall (p : Int → Bool) (h : (List.range 256).all (fun c => p c) = true) (c : Int) (h0 : 0 ≤ c) (h1 : c ≤ 255) : p c = true := by
  have := List.all_eq_true.1 h c.toNat (by simp; omega)
  rwa [Int.toNat_of_nonneg h0] at this

theorem bits_and (k : IntKind) (a b : Int) : Go.bits .and k a b = k.wrap (((a % 2 ^ k.bits).toNat &&& (b % 2 ^ k.bits).toNat : Nat) : Int) := by
  simp only [Go.bits, BitVec.toNat_and, BitVec.toNat_ofInt]
  rfl
theorem bits_and_i64 (a b : Int) : Go.bits .and .i64 a b = wrap64 (((a % 18446744073709551616).toNat &&& (b % 18446744073709551616).toNat : Nat) : Int) := by
  have e : (2 : Int) ^ IntKind.i64.bits = 18446744073709551616 := by simp [IntKind.bits]
  rw [bits_and, IntKind.wrap_i64, e, wrap64]
theorem and127 {c : Int} (h0 : 0 ≤ c) (h1 : c ≤ 255) : Go.bits .and .u8 c 127 = c % 128 := bits_mask .u8 8 (by decide) wraps_u8 7 (by decide) c h0 (by omega)

end Go.Proofs.YtlahigmoljflkaaU
