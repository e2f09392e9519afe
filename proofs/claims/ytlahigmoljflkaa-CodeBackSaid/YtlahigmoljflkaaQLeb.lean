import Derived.Test.YtlahigmoljflkaaPur
import Derived.Laws.BitsLemmas
/- Numbers by groups of seven bits, as plain lists: what a list's head says, and which list says a number. -/
namespace Go.Proofs.Ytlahigmoljflkaa.Q
open Go.RowKit Go.Proofs.YtlahigmoljflkaaW.PrintWords Go.Proofs.YtlahigmoljflkaaW.PrintLast Go.Proofs.YtlahigmoljflkaaW.PrintMore Go.Proofs.YtlahigmoljflkaaU
set_option linter.unusedVariables false

/-- What the first n groups say. -/
def val (b : List Int) : Nat → Int
  | 0 => 0
  | n + 1 => val b n + (b.getD n 0 % 128) * 128 ^ n
theorem val_bound (b : List Int) : ∀ n, 0 ≤ val b n ∧ val b n < 128 ^ n
  | 0 => by simp [val]
  | n + 1 => by
    obtain ⟨h0, h1⟩ := val_bound b n
    have hc : 0 ≤ b.getD n 0 % 128 ∧ b.getD n 0 % 128 ≤ 127 := by omega
    have hp : (0 : Int) < 128 ^ n := Int.pow_pos (by decide)
    simp only [val, Int.pow_succ]
    have h2 := Int.mul_nonneg hc.1 (Int.le_of_lt hp)
    have h3 := Int.mul_le_mul_of_nonneg_right hc.2 (Int.le_of_lt hp)
    omega
theorem val_congr (b c : List Int) : ∀ n, (∀ i, i < n → b.getD i 0 % 128 = c.getD i 0 % 128) → val b n = val c n
  | 0, _ => rfl
  | n + 1, h => by
    simp only [val]
    rw [val_congr b c n (fun i hi => h i (by omega)), h n (by omega)]

/-- Where the first group without a sign that it goes on ends, of at most d from i on; 0: there is none. -/
def scan (b : List Int) : Nat → Nat → Nat
  | 0, _ => 0
  | d + 1, i => if i < b.length then (if b.getD i 0 < 128 then i + 1 else scan b d (i + 1)) else 0
theorem scan_pos (b : List Int) : ∀ d i n, scan b d i = n → n ≠ 0 → i < n ∧ n ≤ i + d ∧ n ≤ b.length ∧ b.getD (n - 1) 0 < 128 ∧ ∀ j, i ≤ j → j + 1 < n → ¬ b.getD j 0 < 128
  | 0, i, n, h, h0 => by simp [scan] at h; omega
  | d + 1, i, n, h, h0 => by
    simp only [scan] at h
    split at h
    · rename_i hi
      split at h
      · subst h
        rename_i hc
        exact ⟨by omega, by omega, by omega, by simpa using hc, fun j h1 h2 => by omega⟩
      · rename_i hc
        obtain ⟨h1, h2, h3, h4, h5⟩ := scan_pos b d (i + 1) n h h0
        refine ⟨by omega, by omega, h3, h4, fun j hj hn => ?_⟩
        rcases Nat.lt_or_ge i j with hij | hij
        · exact h5 j hij hn
        · have : j = i := by omega
          rw [this]; exact hc
    · omega
/-- If the groups from i on go on up to n, and the last one does not, then that is what is found. -/
theorem scan_is (b : List Int) (n : Nat) (hn : n ≤ b.length) (hl : b.getD (n - 1) 0 < 128) : ∀ d i, i < n → n ≤ i + d → (∀ j, i ≤ j → j + 1 < n → ¬ b.getD j 0 < 128) → scan b d i = n
  | 0, i, h, h2, _ => by omega
  | d + 1, i, h, h2, hj => by
    simp only [scan]
    rw [if_pos (by omega)]
    by_cases e : i + 1 = n
    · rw [if_pos (by rw [show i = n - 1 by omega]; exact hl)]; exact e
    · rw [if_neg (hj i (Nat.le_refl _) (by omega))]
      exact scan_is b n hn hl d (i + 1) (by omega) (by omega) (fun j h1 h2 => hj j (by omega) h2)
/-- How many groups so many bits have. -/
def most (bits : Int) : Nat := ((bits + 6) / 7).toNat
/-- What is read: the number and its bytes, or none. -/
def ruint (b : List Int) (bits : Int) : Option (Int × Nat) :=
  let n := scan b (most bits) 0
  if n = 0 ∨ 2 ^ bits.toNat ≤ val b n then none else some (val b n, n)
def sval (b : List Int) (n : Nat) : Int := val b n - (if b.getD (n - 1) 0 < 64 then 0 else 128 ^ n)
def rsint (b : List Int) (bits : Int) : Option (Int × Nat) :=
  let n := scan b (most bits) 0
  if n = 0 ∨ sval b n < -2 ^ (bits.toNat - 1) ∨ 2 ^ (bits.toNat - 1) ≤ sval b n then none else some (sval b n, n)

theorem most_eq {bits : Int} (h1 : 1 ≤ bits) (h2 : bits ≤ 64) : wrap64 (Int.tdiv (wrap64 (bits + 6)) 7) = (most bits : Int) := by
  unfold most
  rw [w64 (x := bits + 6) (by omega) (by omega), Int.tdiv_eq_ediv_of_nonneg (by omega), w64 (by omega) (by omega)]
  omega
theorem most_le {bits : Int} (h1 : 1 ≤ bits) (h2 : bits ≤ 64) : 1 ≤ most bits ∧ most bits ≤ 10 ∧ (most bits = 10 → bits = 64) := by
  unfold most
  omega
theorem pow128 (n : Nat) : (128 : Int) ^ n = 2 ^ (7 * n) := by
  rw [Int.pow_mul]; rfl

/-- One group more, as both texts reckon it. -/
theorem or_step (b : List Int) (i : Nat) (hi : i ≤ 9) (c : Int) (hc : c = b.getD i 0 % 128) :
    Go.bits .or .u64 (val b i % 18446744073709551616) (shl .u64 (IntKind.u64.wrap c) ((7 * i : Nat) : Int)) = val b (i + 1) % 18446744073709551616 := by
  obtain ⟨h0, h1⟩ := val_bound b i
  have hc0 : 0 ≤ c ∧ c ≤ 127 := by omega
  have hs : shl .u64 (IntKind.u64.wrap c) ((7 * i : Nat) : Int) = (c * 2 ^ (7 * i)) % 18446744073709551616 := by
    unfold shl
    have hcw : c % 18446744073709551616 = c := Int.emod_eq_of_lt (by omega) (by omega)
    have : min (((7 * i : Nat) : Int).toNat) IntKind.u64.bits = 7 * i := by simp [IntKind.bits]; omega
    rw [wu64, wu64, hcw, this]
  have hp : (2 : Int) ^ (7 * i) ≤ 2 ^ 63 := by
    have : (2 : Nat) ^ (7 * i) ≤ 2 ^ 63 := Nat.pow_le_pow_right (by decide) (by omega)
    exact_mod_cast this
  rw [pow128] at h1
  have hv : val b i % 18446744073709551616 = val b i := Int.emod_eq_of_lt h0 (by omega)
  rw [hs, hv]
  have hd : (18446744073709551616 : Int) = 2 ^ (7 * i) * 2 ^ (64 - 7 * i) := by
    rw [← Int.pow_add, Nat.add_sub_cancel' (by omega)]; rfl
  rw [or64 (p := 7 * i) (by omega) h0 h1 (Int.emod_nonneg _ (by decide)) (Int.emod_lt_of_pos _ (by decide))]
  · simp only [val, hc, pow128]
    have : ∀ a b m : Int, 0 ≤ a → 0 < m → a + b % m < m → a + b % m = (a + b) % m := by
      intro a b m ha hm h
      rw [← Int.emod_eq_of_lt (Int.add_nonneg ha (Int.emod_nonneg _ (by omega))) h, Int.add_emod_emod]
    refine this _ _ _ h0 (by decide) ?_
    generalize hy : (b.getD i 0 % 128) * 2 ^ (7 * i) % 18446744073709551616 = y
    have hy1 : 0 ≤ y ∧ y < 18446744073709551616 := by rw [← hy]; exact ⟨Int.emod_nonneg _ (by decide), Int.emod_lt_of_pos _ (by decide)⟩
    have hy2 : y % 2 ^ (7 * i) = 0 := by
      rw [← hy, Int.emod_emod_of_dvd _ ⟨2 ^ (64 - 7 * i), hd⟩, Int.mul_emod_left]
    obtain ⟨q, hq⟩ := Int.dvd_of_emod_eq_zero hy2
    rw [hq] at hy1 ⊢
    have hpos : (0 : Int) < 2 ^ (7 * i) := Int.pow_pos (by decide)
    rw [hd] at hy1 ⊢
    have hq2 : q < 2 ^ (64 - 7 * i) := Int.lt_of_mul_lt_mul_left hy1.2 (Int.le_of_lt hpos)
    have := Int.mul_le_mul_of_nonneg_left (show q + 1 ≤ 2 ^ (64 - 7 * i) by omega) (Int.le_of_lt hpos)
    rw [Int.mul_add] at this
    omega
  · rw [Int.emod_emod_of_dvd _ ⟨2 ^ (64 - 7 * i), hd⟩, Int.mul_emod_left]

end Go.Proofs.Ytlahigmoljflkaa.Q
