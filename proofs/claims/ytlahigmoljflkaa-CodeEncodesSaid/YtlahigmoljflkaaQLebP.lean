import Derived.Test.YtlahigmoljflkaaPAllx23
import Derived.Test.YtlahigmoljflkaaPAllx24
import Derived.Test.YtlahigmoljflkaaPAllx26
import Derived.Test.YtlahigmoljflkaaPAllx27
import Derived.Test.YtlahigmoljflkaaPAllx14
import Derived.Test.YtlahigmoljflkaaQLeb
/- What leb's PutUint and PutSint, and the reference's, come to. -/
namespace Go.Proofs.Ytlahigmoljflkaa.Q
open Go.RowKit Go.Proofs.Ytlahigmoljflkaa.PAll Go.Proofs.YtlahigmoljflkaaW.PrintWords Go.Proofs.YtlahigmoljflkaaW.PrintLast Go.Proofs.YtlahigmoljflkaaW.PrintMore Go.Proofs.YtlahigmoljflkaaU
set_option linter.unusedVariables false

theorem eqb_l0 (a b : List Int) (hl : a.length = b.length) (hm : a.length < 140737488355328) : ∀ (d j : Nat), j + d = a.length → ∀ k, d < k → gangwayref0_EqBytes.l0 k a b (j : Int) = some (decide (a.drop j = b.drop j)) := by
  intro d
  induction d with
  | zero =>
    intro j hj k hk
    obtain ⟨k, rfl⟩ : ∃ m, k = m + 1 := ⟨k - 1, by omega⟩
    simp only [gangwayref0_EqBytes.l0]
    rw [if_neg (by omega), List.drop_of_length_le (by omega), List.drop_of_length_le (by omega)]
    rfl
  | succ d ih =>
    intro j hj k hk
    obtain ⟨k, rfl⟩ : ∃ m, k = m + 1 := ⟨k - 1, by omega⟩
    have e3 : wrap64 ((j : Int) + 1) = ((j + 1 : Nat) : Int) := by rw [w64 (by omega) (by omega)]; omega
    simp only [gangwayref0_EqBytes.l0]
    rw [if_pos (by omega), if_pos (by omega), if_pos (by omega), rd_nat, rd_nat, e3]
    have hs := beq_cons_take (a := a) (b := b) (i := j) (by omega) (by omega)
    by_cases h : a.getD j 0 = b.getD j 0
    · rw [if_pos h, ih (j + 1) (by omega) k (by omega)]
      simp only [hs, h, true_and]
    · rw [if_neg h]
      simp only [hs, h, false_and, decide_false]

theorem eqb_ev (a b : List Int) (hm : a.length < 140737488355328) (k : Nat) (hk : a.length < k) : gangwayref0_EqBytes.f k a b = some (decide (a = b)) := by
  unfold gangwayref0_EqBytes.f
  by_cases h : a.length = b.length
  · rw [if_pos (by omega)]
    exact eqb_l0 a b h hm a.length 0 (by omega) k (by omega)
  · rw [if_neg (by omega)]
    have : a ≠ b := fun e => h (by rw [e])
    simp [this]

/-- The groups of a number from 0 on, of at most d more than one. -/
def pu : Nat → Int → List Int
  | 0, x => [x % 256]
  | d + 1, x => if x ≥ 128 then (x % 128 + 128) :: pu d (x / 128) else [x % 256]
/-- The groups of a number with a sign. -/
def ps : Nat → Int → List Int
  | 0, x => [x % 128]
  | d + 1, x => if x < -64 ∨ 64 ≤ x then (x % 128 + 128) :: ps d (x / 128) else [x % 128]
theorem pu_length : ∀ d x, 1 ≤ (pu d x).length ∧ (pu d x).length ≤ d + 1
  | 0, x => by simp [pu]
  | d + 1, x => by
    simp only [pu]
    have := pu_length d (x / 128)
    split <;> simp <;> omega
theorem ps_length : ∀ d x, 1 ≤ (ps d x).length ∧ (ps d x).length ≤ d + 1
  | 0, x => by simp [ps]
  | d + 1, x => by
    simp only [ps]
    have := ps_length d (x / 128)
    split <;> simp <;> omega

theorem or128 {c : Int} (h0 : 0 ≤ c) (h1 : c ≤ 255) : Go.bits .or .u8 c 128 = c % 128 + 128 := by
  have := byteall (fun c => Go.bits .or .u8 c 128 == c % 128 + 128) (by decide +kernel) c h0 h1
  simpa using this
theorem and127' {c : Int} (h0 : 0 ≤ c) (h1 : c ≤ 255) : Go.bits .and .u8 c 127 = c % 128 := and127 h0 h1
theorem mod256_128 (x : Int) : x % 256 % 128 = x % 128 := by omega

theorem pu_l0 : ∀ (d : Nat) (x : Int) (a : List Int), 0 ≤ x → x < 128 ^ (d + 1) → a.length + d < 100 → ∀ k, d < k → leb_PutUint.l0 k x a = some (a ++ pu d x) := by
  intro d
  induction d with
  | zero =>
    intro x a h0 h1 ha k hk
    obtain ⟨k, rfl⟩ : ∃ m, k = m + 1 := ⟨k - 1, by omega⟩
    simp only [leb_PutUint.l0, pu]
    rw [if_neg (by omega), if_pos (by omega)]
  | succ d ih =>
    intro x a h0 h1 ha k hk
    obtain ⟨k, rfl⟩ : ∃ m, k = m + 1 := ⟨k - 1, by omega⟩
    simp only [leb_PutUint.l0, pu]
    by_cases h : x ≥ 128
    · rw [if_pos h, if_pos h, if_pos (by omega), or128 (by omega) (by omega), mod256_128, ih (x / 128) _ (by omega) (by rw [Int.pow_succ] at h1; omega) (by simp; omega) k (by omega)]
      simp
    · rw [if_neg h, if_neg h, if_pos (by omega)]
theorem put_ev (x : Int) (h0 : 0 ≤ x) (h1 : x ≤ 18446744073709551615) (k : Nat) (hk : 30 ≤ k) : leb_PutUint.f k x = some (pu 9 x) := by
  have := pu_l0 9 x [] h0 (by rw [show (128 : Int) ^ (9 + 1) = 1180591620717411303424 from by decide]; omega) (by simp) k (by omega)
  rwa [List.nil_append] at this

theorem rpu_l0 : ∀ (d : Nat) (x : Int) (a : List Int), 0 ≤ x → x ≤ 18446744073709551615 → x < 128 ^ (d + 1) → a.length + d < 100 → ∀ k, d < k → gangwayref1_PutUint.l0 k x a = some (a ++ pu d x) := by
  intro d
  induction d with
  | zero =>
    intro x a h0 h2 h1 ha k hk
    obtain ⟨k, rfl⟩ : ∃ m, k = m + 1 := ⟨k - 1, by omega⟩
    simp only [gangwayref1_PutUint.l0, pu]
    rw [if_neg (by omega), if_pos (by omega)]
  | succ d ih =>
    intro x a h0 h2 h1 ha k hk
    obtain ⟨k, rfl⟩ : ∃ m, k = m + 1 := ⟨k - 1, by omega⟩
    simp only [gangwayref1_PutUint.l0, pu]
    by_cases h : x ≥ 128
    · rw [if_pos h, if_pos h, if_pos (by omega), Int.tmod_eq_emod_of_nonneg h0, Int.tdiv_eq_ediv_of_nonneg h0, wu64, Int.emod_eq_of_lt (by omega) (by omega), or128 (by omega) (by omega), ih (x / 128) _ (by omega) (by omega) (by rw [Int.pow_succ] at h1; omega) (by simp; omega) k (by omega)]
      have : x % 128 % 256 % 128 = x % 128 := by omega
      rw [this]
      simp
    · rw [if_neg h, if_neg h, if_pos (by omega)]
theorem rput_ev (x : Int) (h0 : 0 ≤ x) (h1 : x ≤ 18446744073709551615) (k : Nat) (hk : 30 ≤ k) : gangwayref1_PutUint.f k x = some (pu 9 x) := by
  have := rpu_l0 9 x [] h0 h1 (by rw [show (128 : Int) ^ (9 + 1) = 1180591620717411303424 from by decide]; omega) (by simp) k (by omega)
  rwa [List.nil_append] at this

theorem ps_l0 : ∀ (d : Nat) (x : Int) (a : List Int), -(64 * 128 ^ d) ≤ x → x < 64 * 128 ^ d → a.length + d < 100 → ∀ k, d < k → leb_PutSint.l0 k x a = some (a ++ ps d x) := by
  intro d
  induction d with
  | zero =>
    intro x a h0 h1 ha k hk
    obtain ⟨k, rfl⟩ : ∃ m, k = m + 1 := ⟨k - 1, by omega⟩
    simp only [leb_PutSint.l0, ps]
    rw [if_neg (by omega), if_neg (by omega), if_pos (by omega), and127' (by omega) (by omega), mod256_128]
  | succ d ih =>
    intro x a h0 h1 ha k hk
    obtain ⟨k, rfl⟩ : ∃ m, k = m + 1 := ⟨k - 1, by omega⟩
    have go : leb_PutSint.l0 k (x / 128) (a ++ [x % 128 + 128]) = some (a ++ (x % 128 + 128) :: ps d (x / 128)) := by
      rw [ih (x / 128) _ (by rw [Int.pow_succ] at h0; omega) (by rw [Int.pow_succ] at h1; omega) (by simp; omega) k (by omega)]
      simp
    simp only [leb_PutSint.l0, ps]
    rw [or128 (by omega) (by omega), mod256_128]
    by_cases h : x < -64
    · rw [if_pos h, if_pos (by omega), if_pos (.inl h)]; exact go
    · rw [if_neg h]
      by_cases h2 : x ≥ 64
      · rw [if_pos h2, if_pos (by omega), if_pos (.inr h2)]; exact go
      · rw [if_neg h2, if_pos (by omega), if_neg (by omega), and127' (by omega) (by omega), mod256_128]
theorem puts_ev (x : Int) (h0 : -9223372036854775808 ≤ x) (h1 : x ≤ 9223372036854775807) (k : Nat) (hk : 30 ≤ k) : leb_PutSint.f k x = some (ps 9 x) := by
  have e : (64 : Int) * 128 ^ 9 = 590295810358705651712 := by decide
  have := ps_l0 9 x [] (by rw [e]; omega) (by rw [e]; omega) (by simp) k (by omega)
  rwa [List.nil_append] at this

theorem and127_64 (x : Int) : Go.bits .and .i64 x 127 = x % 128 := by
  rw [bits_and_i64]
  have e : ((127 : Int) % 18446744073709551616).toNat = 2 ^ 7 - 1 := by decide
  rw [e, Nat.and_two_pow_sub_one_eq_mod]
  have h : ((x % 18446744073709551616).toNat % 2 ^ 7 : Nat) = (x % 128).toNat := by omega
  have h0 : 0 ≤ x % 128 ∧ x % 128 < 128 := by omega
  rw [h, Int.toNat_of_nonneg h0.1, w64 (by omega) (by omega)]

theorem rps_l0 : ∀ (d : Nat) (x : Int) (a : List Int), -(64 * 128 ^ d) ≤ x → x < 64 * 128 ^ d → a.length + d < 100 → ∀ k, d < k → gangwayref1_PutSint.l0 k x a = some (a ++ ps d x) := by
  intro d
  induction d with
  | zero =>
    intro x a h0 h1 ha k hk
    obtain ⟨k, rfl⟩ : ∃ m, k = m + 1 := ⟨k - 1, by omega⟩
    simp only [gangwayref1_PutSint.l0, ps]
    rw [if_neg (by omega), if_neg (by omega), if_pos (by omega), and127_64, Int.emod_eq_of_lt (a := x % 128) (b := 256) (by omega) (by omega)]
  | succ d ih =>
    intro x a h0 h1 ha k hk
    obtain ⟨k, rfl⟩ : ∃ m, k = m + 1 := ⟨k - 1, by omega⟩
    have go : gangwayref1_PutSint.l0 k (x / 128) (a ++ [x % 128 + 128]) = some (a ++ (x % 128 + 128) :: ps d (x / 128)) := by
      rw [ih (x / 128) _ (by rw [Int.pow_succ] at h0; omega) (by rw [Int.pow_succ] at h1; omega) (by simp; omega) k (by omega)]
      simp
    simp only [gangwayref1_PutSint.l0, ps]
    rw [and127_64, Int.emod_eq_of_lt (a := x % 128) (b := 256) (by omega) (by omega), or128 (by omega) (by omega), Int.emod_emod_of_dvd x ⟨1, by decide⟩]
    by_cases h : x < -64
    · rw [if_pos h, if_pos (by omega), if_pos (.inl h)]; exact go
    · rw [if_neg h]
      by_cases h2 : x > 63
      · rw [if_pos h2, if_pos (by omega), if_pos (.inr (by omega))]; exact go
      · rw [if_neg h2, if_pos (by omega), if_neg (by omega)]
theorem rputs_ev (x : Int) (h0 : -9223372036854775808 ≤ x) (h1 : x ≤ 9223372036854775807) (k : Nat) (hk : 30 ≤ k) : gangwayref1_PutSint.f k x = some (ps 9 x) := by
  have e : (64 : Int) * 128 ^ 9 = 590295810358705651712 := by decide
  have := rps_l0 9 x [] (by rw [e]; omega) (by rw [e]; omega) (by simp) k (by omega)
  rwa [List.nil_append] at this

end Go.Proofs.Ytlahigmoljflkaa.Q
