/- Plain lemmas on numbers and lists of bytes, for the pure statements. -/
import Derived.Test.YthhmnecnoojcpaaWWords
import Derived.Test.YthhmnecnoojcpaaWLast
import Derived.Test.YthhmnecnoojcpaaWMore
namespace Go.Proofs.YthhmnecnoojcpaaU
open Go.RowKit Go.Proofs.YthhmnecnoojcpaaW.PrintWords Go.Proofs.YthhmnecnoojcpaaW.PrintLast Go.Proofs.YthhmnecnoojcpaaW.PrintMore
set_option linter.unusedVariables false

theorem w64 {x : Int} (h0 : -9223372036854775808 ≤ x) (h1 : x ≤ 9223372036854775807) : wrap64 x = x := by
  unfold wrap64
  omega

theorem w32 {x : Int} (h0 : -2147483648 ≤ x) (h1 : x ≤ 2147483647) : wrap32 x = x := by
  unfold wrap32
  omega

theorem wu64 (x : Int) : IntKind.u64.wrap x = x % 18446744073709551616 := by
  simp [IntKind.wrap, IntKind.signed, IntKind.bits]

theorem bd64 {x : Int} (h : (Lit.int .i64 x).wf = true) : -9223372036854775808 ≤ x ∧ x ≤ 9223372036854775807 := by
  simpa [Lit.wf, IntKind.min, IntKind.max, IntKind.signed, IntKind.bits] using h

theorem bdu64 {x : Int} (h : (Lit.int .u64 x).wf = true) : 0 ≤ x ∧ x ≤ 18446744073709551615 := by
  simpa [Lit.wf, IntKind.min, IntKind.max, IntKind.signed, IntKind.bits] using h

theorem bd8 {x : Int} (h : (Lit.int .u8 x).wf = true) : 0 ≤ x ∧ x ≤ 255 := by
  simpa [Lit.wf, IntKind.min, IntKind.max, IntKind.signed, IntKind.bits] using h

theorem bd32 {x : Int} (h : (Lit.int .i32 x).wf = true) : -2147483648 ≤ x ∧ x ≤ 2147483647 := by
  simpa [Lit.wf, IntKind.min, IntKind.max, IntKind.signed, IntKind.bits] using h

/-- The n lowest bytes of a number, the lowest first. -/
def le (v : Int) (n : Nat) : List Int := (List.range n).map fun j => v / 2 ^ (8 * j) % 256
theorem le_length (v : Int) (n : Nat) : (le v n).length = n := by simp [le]
theorem le_zero (v : Int) : le v 0 = [] := rfl
theorem le_succ (v : Int) (n : Nat) : le v (n + 1) = le v n ++ [v / 2 ^ (8 * n) % 256] := by simp [le, List.range_succ]
theorem div_wrap (v : Int) (j : Nat) (h : j < 8) : v % 18446744073709551616 / 2 ^ (8 * j) % 256 = v / 2 ^ (8 * j) % 256 := by
  have : j = 0 ∨ j = 1 ∨ j = 2 ∨ j = 3 ∨ j = 4 ∨ j = 5 ∨ j = 6 ∨ j = 7 := by omega
  rcases this with rfl | rfl | rfl | rfl | rfl | rfl | rfl | rfl <;> simp <;> omega
theorem le_wrap (v : Int) (n : Nat) (h : n ≤ 8) : le (v % 18446744073709551616) n = le v n := by
  simp only [le]
  apply List.map_congr_left
  intro j hj
  exact div_wrap v j (by simp at hj; omega)

/-- Bytes laid over others, from place i on. -/
def splice (b : List Int) (i : Nat) (p : List Int) : List Int := b.take i ++ p ++ b.drop (i + p.length)
theorem splice_length {b : List Int} {i : Nat} {p : List Int} (h : i + p.length ≤ b.length) : (splice b i p).length = b.length := by
  simp [splice]
  omega
theorem splice_nil (b : List Int) (i : Nat) : splice b i [] = b := by simp [splice]
theorem splice_set {b : List Int} {i : Nat} {p : List Int} (x : Int) (h : i + p.length < b.length) : (splice b i p).set (i + p.length) x = splice b i (p ++ [x]) := by
  have hl : (b.take i ++ p).length = i + p.length := by simp; omega
  have hd : b.drop (i + p.length) = b[i + p.length] :: b.drop (i + p.length + 1) := List.drop_eq_getElem_cons h
  simp only [splice, hd]
  rw [List.set_append_right _ _ (by omega), hl, Nat.sub_self]
  simp [Nat.add_assoc]
theorem splice_one {b : List Int} {i : Nat} (x : Int) (h : i < b.length) : b.set i x = splice b i [x] := by
  have := splice_set (b := b) (i := i) (p := []) x (by simpa using h)
  simpa [splice_nil] using this

theorem shr64 (k : IntKind) (hk : k = .i64 ∨ k = .u64) (v : Int) (n : Nat) (h : n ≤ 64) : shr k v (n : Int) = v / 2 ^ n := by
  unfold shr
  have : min ((n : Int).toNat) k.bits = n := by rcases hk with rfl | rfl <;> simp [IntKind.bits] <;> omega
  rw [this]

theorem rd_nat (xs : List Int) (i : Nat) : rd xs (i : Int) = xs.getD i 0 := rfl

theorem beq_cons_take {a b : List Int} {i : Nat} (ha : i < a.length) (hb : i < b.length) : a.drop i = b.drop i ↔ a.getD i 0 = b.getD i 0 ∧ a.drop (i + 1) = b.drop (i + 1) := by
  rw [List.drop_eq_getElem_cons ha, List.drop_eq_getElem_cons hb]
  simp only [List.cons.injEq, List.getD_eq_getElem?_getD, List.getElem?_eq_getElem ha, List.getElem?_eq_getElem hb, Option.getD_some]

theorem ite_dec {c p : Prop} [Decidable c] [Decidable p] {A : Option Bool} (h : c → A = some (decide p)) : (if c then A else some false) = some (decide (c ∧ p)) := by
  by_cases hc : c
  · rw [if_pos hc, h hc]; simp [hc]
  · rw [if_neg hc]; simp [hc]
theorem ite_dec2 {c d p : Prop} [Decidable c] [Decidable d] [Decidable p] {A : Option Bool} (h : c → d → A = some (decide p)) : (if c then (if d then A else some false) else some false) = some (decide ((c ∧ d) ∧ p)) := by
  by_cases hc : c <;> by_cases hd : d
  · rw [if_pos hc, if_pos hd, h hc hd]; simp [hc, hd]
  · simp [hc, hd]
  · simp [hc]
  · simp [hc]
theorem bind_dec {c p : Prop} [Decidable c] [Decidable p] {A : Option Bool} (h : c → A = some (decide p)) : ((some (decide c)).bind fun t => if t = true then A else some false) = some (decide (c ∧ p)) := by
  by_cases hc : c
  · simp [hc, h hc]
  · simp [hc]
theorem le_one (v : Int) : le v 1 = [v % 256] := by simp [le, List.range_succ]

end Go.Proofs.YthhmnecnoojcpaaU
