import Derived.Test.YtlahigmoljflkaaPAllx5
import Derived.Test.YtlahigmoljflkaaPAllx2
import Derived.Test.YtlahigmoljflkaaQLebU
/- What leb.Sint and the reference's Sint come to: the number with a sign that the head says, if it has so many bits. -/
namespace Go.Proofs.Ytlahigmoljflkaa.Q
open Go.RowKit Go.Proofs.Ytlahigmoljflkaa.PAll Go.Proofs.YtlahigmoljflkaaW.PrintWords Go.Proofs.YtlahigmoljflkaaW.PrintLast Go.Proofs.YtlahigmoljflkaaW.PrintMore Go.Proofs.YtlahigmoljflkaaU
set_option linter.unusedVariables false

theorem and64 {c : Int} (h0 : 0 ≤ c) (h1 : c ≤ 255) : (Go.bits .and .u8 c 64 = 0) ↔ c % 128 < 64 := by
  have := byteall (fun c => decide (Go.bits .and .u8 c 64 = 0) == decide (c % 128 < 64)) (by decide +kernel) c h0 h1
  simpa using this
theorem over126 : ∀ c : Int, 0 ≤ c → c ≤ 255 → ((Go.bits .and .u8 (Go.bits .xor .u8 c 126) 126) != 0) = decide (c % 128 < 126) := by
  intro c h0 h1
  have := byteall (fun c => (((Go.bits .and .u8 (Go.bits .xor .u8 c 126) 126) != 0) == decide (c % 128 < 126))) (by decide +kernel) c h0 h1
  simpa using this

theorem shlm {p : Nat} (hp : p ≤ 63) : shl .i64 (-1) (p : Int) = -2 ^ p := by
  unfold shl
  have : min (p : Int).toNat IntKind.i64.bits = p := by simp [IntKind.bits]; omega
  rw [this, IntKind.wrap_i64]
  have h1 : (2 : Int) ^ p ≤ 9223372036854775808 := by
    have := two_pow_le hp
    rwa [show (2 : Int) ^ 63 = 9223372036854775808 from by decide] at this
  have h0 : (0 : Int) < 2 ^ p := Int.pow_pos (by decide)
  rw [Int.neg_one_mul]
  omega
theorem shlp {p : Nat} (hp : p ≤ 62) : shl .i64 1 (p : Int) = 2 ^ p := by
  unfold shl
  have : min (p : Int).toNat IntKind.i64.bits = p := by simp [IntKind.bits]; omega
  rw [this, IntKind.wrap_i64]
  have h1 : (2 : Int) ^ p ≤ 4611686018427387904 := by
    have := two_pow_le hp
    rwa [show (2 : Int) ^ 62 = 4611686018427387904 from by decide] at this
  have h0 : (0 : Int) < 2 ^ p := Int.pow_pos (by decide)
  rw [Int.one_mul]
  omega

/-- A number below 2^p, or -2^p. -/
theorem orm {x : Int} {p : Nat} (hp : p ≤ 63) (h0 : 0 ≤ x) (hx : x < 2 ^ p) : Go.bits .or .i64 x (-2 ^ p) = x - 2 ^ p := by
  obtain ⟨a, rfl⟩ := Int.eq_ofNat_of_zero_le h0
  have ha : a < 2 ^ p := by exact_mod_cast hx
  have hpp : (2 : Nat) ^ p ≤ 2 ^ 63 := Nat.pow_le_pow_right (by decide) hp
  have e63 : (2 : Nat) ^ 63 = 9223372036854775808 := by decide
  have hq : (18446744073709551616 : Nat) = 2 ^ p * 2 ^ (64 - p) := by rw [← Nat.pow_add, Nat.add_sub_cancel' (by omega)]
  have hc : ((2 : Int) ^ p) = ((2 ^ p : Nat) : Int) := by simp
  have hpos : 0 < (2 : Nat) ^ p := Nat.two_pow_pos p
  rw [bits_or_i64, hc]
  have e1 : ((a : Int) % 18446744073709551616).toNat = a := by omega
  have e2 : ((-((2 ^ p : Nat) : Int)) % 18446744073709551616).toNat = 2 ^ p * (2 ^ (64 - p) - 1) := by
    rw [Nat.mul_sub, ← hq]
    omega
  rw [e1, e2, nat_or_add ha, Nat.mul_sub, ← hq, wrap64]
  omega

def outS : Option (Int × Nat) → Int × Int × Int
  | none => (0, 0, 100)
  | some (v, n) => (v, (n : Int), 0)
def readS (b : List Int) (bits : Int) : Option (Int × Nat) := if 1 ≤ bits ∧ bits ≤ 64 then rsint b bits else none

theorem val_last (b : List Int) (n : Nat) (hn : 1 ≤ n) (hl : b.getD (n - 1) 0 < 128) (h0 : 0 ≤ b.getD (n - 1) 0) : val b n = val b (n - 1) + b.getD (n - 1) 0 * 128 ^ (n - 1) := by
  obtain ⟨m, rfl⟩ : ∃ m, n = m + 1 := ⟨n - 1, by omega⟩
  simp only [Nat.add_one_sub_one] at hl h0 ⊢
  simp only [val]
  rw [Int.emod_eq_of_lt h0 hl]

theorem sval_lt (b : List Int) (n : Nat) (hn : 1 ≤ n) (hl : b.getD (n - 1) 0 < 128) (h0 : 0 ≤ b.getD (n - 1) 0) : -(64 * 128 ^ (n - 1)) ≤ sval b n ∧ sval b n < 64 * 128 ^ (n - 1) := by
  have e := val_last b n hn hl h0
  obtain ⟨v0, v1⟩ := val_bound b (n - 1)
  have hp : (0 : Int) < 128 ^ (n - 1) := Int.pow_pos (by decide)
  have e2 : (128 : Int) ^ n = 128 * 128 ^ (n - 1) := by
    obtain ⟨m, rfl⟩ : ∃ m, n = m + 1 := ⟨n - 1, by omega⟩
    rw [Nat.add_one_sub_one, Int.pow_succ, Int.mul_comm]
  unfold sval
  generalize hc : b.getD (n - 1) 0 = c at *
  generalize (128 : Int) ^ (n - 1) = q at *
  by_cases h64 : c < 64
  · rw [if_pos h64, e]
    have h1 : (c + 1) * q ≤ 64 * q := Int.mul_le_mul_of_nonneg_right (by omega) (by omega)
    have h2 : 0 ≤ c * q := Int.mul_nonneg h0 (by omega)
    rw [Int.add_mul] at h1
    omega
  · rw [if_neg h64, e, e2]
    have h1 : 64 * q ≤ c * q := Int.mul_le_mul_of_nonneg_right (by omega) (by omega)
    have h2 : (c + 1) * q ≤ 128 * q := Int.mul_le_mul_of_nonneg_right (by omega) (by omega)
    rw [Int.add_mul] at h2
    omega

theorem sval9 (b : List Int) (n : Nat) (hn : 1 ≤ n) (h : n ≤ 9) (hl : b.getD (n - 1) 0 < 128) (h0 : 0 ≤ b.getD (n - 1) 0) : -4611686018427387904 ≤ sval b n ∧ sval b n < 4611686018427387904 := by
  obtain ⟨h1, h2⟩ := sval_lt b n hn hl h0
  have hp : (128 : Int) ^ (n - 1) ≤ 128 ^ 8 := by
    have : (128 : Nat) ^ (n - 1) ≤ 128 ^ 8 := Nat.pow_le_pow_right (by decide) (by omega)
    exact_mod_cast this
  rw [show (128 : Int) ^ 8 = 72057594037927936 from by decide] at hp
  omega

theorem signed_j3 (b : List Int) (n : Nat) (v : Int) (bits : Int) (hb1 : 1 ≤ bits) (hb2 : bits ≤ 64) (hv0 : -9223372036854775808 ≤ v) (hv1 : v ≤ 9223372036854775807) (k : Nat) :
    leb_place_signed.j3 (k + 1) (n : Int) v false b bits = some (if v < -2 ^ (bits.toNat - 1) ∨ 2 ^ (bits.toNat - 1) ≤ v then (0, 0, 100) else (v, (n : Int), 0)) := by
  simp only [leb_place_signed.j3]
  have e1 : wrap64 (bits - 1) = ((bits.toNat - 1 : Nat) : Int) := by rw [w64 (by omega) (by omega)]; omega
  rw [if_neg (by simp), e1, if_pos (by omega)]
  by_cases h64 : bits < 64
  · have hpl := two_pow_le (n := bits.toNat - 1) (m := 62) (by omega)
    rw [show (2 : Int) ^ 62 = 4611686018427387904 from by decide] at hpl
    have hpp : (0 : Int) < 2 ^ (bits.toNat - 1) := Int.pow_pos (by decide)
    rw [if_pos h64, shlp (by omega), w64 (by omega) (by omega)]
    by_cases c1 : v < -2 ^ (bits.toNat - 1)
    · rw [if_pos c1, if_pos (.inl c1)]
    · rw [if_neg c1]
      by_cases c2 : v ≥ 2 ^ (bits.toNat - 1)
      · rw [if_pos c2, if_pos (.inr c2)]
      · rw [if_neg c2, if_neg (by omega)]
  · obtain rfl : bits = 64 := by omega
    rw [if_neg h64, if_neg (by rw [show (2 : Int) ^ ((64 : Int).toNat - 1) = 9223372036854775808 from by decide]; omega)]

theorem signed_j0 (b : List Int) (n : Nat) (v : Int) (bits : Int) (hb1 : 1 ≤ bits) (hb2 : bits ≤ 64) (hv0 : -9223372036854775808 ≤ v) (hv1 : v ≤ 9223372036854775807) (k : Nat) :
    leb_place_signed.j0 (k + 1) (n : Int) v false b bits = some (if v < -2 ^ (bits.toNat - 1) ∨ 2 ^ (bits.toNat - 1) ≤ v then (0, 0, 100) else (v, (n : Int), 0)) := by
  simp only [leb_place_signed.j0]
  have e1 : wrap64 (bits - 1) = ((bits.toNat - 1 : Nat) : Int) := by rw [w64 (by omega) (by omega)]; omega
  rw [if_neg (by simp), e1, if_pos (by omega)]
  by_cases h64 : bits < 64
  · have hpl := two_pow_le (n := bits.toNat - 1) (m := 62) (by omega)
    rw [show (2 : Int) ^ 62 = 4611686018427387904 from by decide] at hpl
    have hpp : (0 : Int) < 2 ^ (bits.toNat - 1) := Int.pow_pos (by decide)
    rw [if_pos h64, shlp (by omega), w64 (by omega) (by omega)]
    by_cases c1 : v < -2 ^ (bits.toNat - 1)
    · rw [if_pos c1, if_pos (.inl c1)]
    · rw [if_neg c1]
      by_cases c2 : v ≥ 2 ^ (bits.toNat - 1)
      · rw [if_pos c2, if_pos (.inr c2)]
      · rw [if_neg c2, if_neg (by omega)]
  · obtain rfl : bits = 64 := by omega
    rw [if_neg h64, if_neg (by rw [show (2 : Int) ^ ((64 : Int).toNat - 1) = 9223372036854775808 from by decide]; omega)]

theorem range64 {v : Int} : (v < -2 ^ ((64 : Int).toNat - 1) ∨ 2 ^ ((64 : Int).toNat - 1) ≤ v) ↔ (v < -9223372036854775808 ∨ 9223372036854775808 ≤ v) := by
  rw [show (2 : Int) ^ ((64 : Int).toNat - 1) = 9223372036854775808 from by decide]

theorem outS_of {b : List Int} {bits : Int} {n : Nat} (hb : 1 ≤ bits ∧ bits ≤ 64) (hn : scan b (most bits) 0 = n) (h0 : n ≠ 0) : outS (readS b bits) = (if sval b n < -2 ^ (bits.toNat - 1) ∨ 2 ^ (bits.toNat - 1) ≤ sval b n then (0, 0, 100) else (sval b n, (n : Int), 0)) := by
  unfold readS rsint
  rw [if_pos hb, hn]
  simp only [h0, false_or]
  split <;> rfl

theorem j0_true (b : List Int) (n v bits : Int) (k : Nat) : leb_place_signed.j0 (k + 1) n v true b bits = some (0, 0, 100) := by simp [leb_place_signed.j0]
theorem j3_true (b : List Int) (n v bits : Int) (k : Nat) : leb_place_signed.j3 (k + 1) n v true b bits = some (0, 0, 100) := by simp [leb_place_signed.j3]

/-- Ten groups. -/
theorem sint_ten (b : List Int) (hb : Bytes b) (hl : 10 ≤ b.length) (hc : b.getD 9 0 < 128) (k : Nat) :
    (if Go.bits .and .u8 (rd b 9) 64 = 0 then ((leb_place_over.f b 64 10 0).bind fun t => (if t = true then (leb_place_signed.j0 (k + 4) 10 (wrap64 (val b 10 % 18446744073709551616)) true b 64) else (if (10 : Int) = 10 then (leb_place_signed.j0 (k + 4) 10 (wrap64 (val b 10 % 18446744073709551616)) (false != (decide ((wrap64 (val b 10 % 18446744073709551616)) < 0))) b 64) else (leb_place_signed.j0 (k + 4) 10 (wrap64 (val b 10 % 18446744073709551616)) false b 64))))
      else leb_place_signed.j1 (k + 4) 10 (wrap64 (val b 10 % 18446744073709551616)) true b 64) = some (if sval b 10 < -9223372036854775808 ∨ 9223372036854775808 ≤ sval b 10 then (0, 0, 100) else (sval b 10, 10, 0)) := by
  have hg := hb.2 9
  have e := val_last b 10 (by omega) hc hg.1
  rw [show (10 - 1 : Nat) = 9 from rfl, show (128 : Int) ^ 9 = 9223372036854775808 from by decide] at e
  have hv9 := val_bound b 9
  rw [show (128 : Int) ^ 9 = 9223372036854775808 from by decide] at hv9
  have hs : sval b 10 = val b 10 - (if b.getD 9 0 < 64 then 0 else 1180591620717411303424) := by
    unfold sval
    rw [show (128 : Int) ^ 10 = 1180591620717411303424 from by decide]
  have hr : rd b 9 = b.getD 9 0 := rfl
  have ha := and64 hg.1 hg.2
  have o0 := over0 _ hg.1 hg.2
  have o126 := over126 _ hg.1 hg.2
  have J0 : ∀ v, -9223372036854775808 ≤ v → v ≤ 9223372036854775807 → leb_place_signed.j0 (k + 4) 10 v false b 64 = some (v, 10, 0) := by
    intro v h0 h1
    have := signed_j0 b 10 v 64 (by omega) (by omega) h0 h1 (k + 3)
    rw [if_neg (by rw [range64]; omega)] at this
    exact this
  have J3 : ∀ v, -9223372036854775808 ≤ v → v ≤ 9223372036854775807 → leb_place_signed.j3 (k + 2) 10 v false b 64 = some (v, 10, 0) := by
    intro v h0 h1
    have := signed_j3 b 10 v 64 (by omega) (by omega) h0 h1 (k + 1)
    rw [if_neg (by rw [range64]; omega)] at this
    exact this
  have hov0 : leb_place_over.f b 64 10 0 = some (decide (2 ≤ b.getD 9 0 % 128)) := by
    unfold leb_place_over.f
    rw [if_pos rfl, if_pos (by omega), hr, o0]
  have hov126 : leb_place_over.f b 64 10 126 = some (decide (b.getD 9 0 % 128 < 126)) := by
    unfold leb_place_over.f
    rw [if_pos rfl, if_pos (by omega), hr, o126]
  rw [hr, hov0]
  clear hr o0 o126
  generalize b.getD 9 0 = c at *
  by_cases h64 : c < 64
  · rw [if_pos (ha.2 (by omega)), Option.bind_some]
    rw [if_pos h64] at hs
    by_cases c2 : 2 ≤ c
    · rw [if_pos (by simp; omega), j0_true, if_pos (by omega)]
    · rw [if_neg (by simp; omega), if_pos rfl]
      by_cases c1 : c = 1
      · have hw : wrap64 (val b 10 % 18446744073709551616) < 0 := by unfold wrap64; omega
        rw [show (false != decide (wrap64 (val b 10 % 18446744073709551616) < 0)) = true by simp [hw], j0_true, if_pos (by omega)]
      · have hw : wrap64 (val b 10 % 18446744073709551616) = val b 10 := by unfold wrap64; omega
        rw [hw, show (false != decide (val b 10 < 0)) = false by simp; omega, J0 _ (by omega) (by omega), if_neg (by omega), hs]
        simp
  · rw [if_neg (fun h => h64 (by have := ha.1 h; omega))]
    rw [if_neg h64] at hs
    simp only [leb_place_signed.j1, if_true, leb_place_signed.j2]
    rw [hov126, Option.bind_some]
    by_cases c126 : c < 126
    · rw [if_pos (by simp; omega), j3_true, if_pos (by omega)]
    · rw [if_neg (by simp; omega)]
      by_cases c1 : c = 126
      · have hw : ¬ wrap64 (val b 10 % 18446744073709551616) < 0 := by unfold wrap64; omega
        rw [show (true != decide (wrap64 (val b 10 % 18446744073709551616) < 0)) = true by simp [hw], j3_true, if_pos (by omega)]
      · have hw : wrap64 (val b 10 % 18446744073709551616) = sval b 10 := by unfold wrap64; omega
        have hneg : sval b 10 < 0 := by omega
        rw [hw, show (true != decide (sval b 10 < 0)) = false by simp [hneg], J3 _ (by omega) (by omega), if_neg (by omega)]

theorem sint_ev (b : List Int) (hb : Bytes b) (bits : Int) (k : Nat) (hk : 40 ≤ k) : leb_Sint.f k b bits = some (outS (readS b bits)) := by
  obtain ⟨k, rfl⟩ : ∃ m, k = m + 4 := ⟨k - 4, by omega⟩
  unfold leb_Sint.f leb_place_signed.f
  rw [groups_ev b hb bits (k + 4) (by omega)]
  by_cases hbb : 1 ≤ bits ∧ bits ≤ 64
  · rw [if_pos hbb]
    have hm := most_le hbb.1 hbb.2
    generalize hn : scan b (most bits) 0 = n
    by_cases hn0 : n = 0
    · unfold readS rsint
      rw [if_pos hbb, hn]
      simp [hn0, outS]
    · obtain ⟨p1, p2, p3, p4, p5⟩ := scan_pos b _ 0 n hn hn0
      have hc := hb.2 (n - 1)
      have hlen := hb.1
      have e1 : wrap64 ((n : Int) - 1) = ((n - 1 : Nat) : Int) := by rw [w64 (by omega) (by omega)]; omega
      have e7 : wrap64 (7 * (n : Int)) = ((7 * n : Nat) : Int) := by rw [w64 (by omega) (by omega)]; omega
      rw [if_neg hn0, outS_of hbb hn hn0]
      simp only [Option.bind_some, if_true]
      rw [e1, e7, if_pos (by omega), if_pos (by omega)]
      have hv0 := val_bound b n
      have ha := and64 hc.1 hc.2
      by_cases h10 : n = 10
      · subst h10
        have hbits : bits = 64 := hm.2.2 (by omega)
        subst hbits
        have := sint_ten b hb p3 p4 k
        simp only [range64]
        rw [if_neg (show ¬ (((7 * 10 : Nat) : Int) < 64) by omega)]
        rw [show (((10 - 1 : Nat)) : Int) = 9 from rfl, show ((10 : Nat) : Int) = 10 from rfl, this]
        rfl
      · have hv63 := pow_lt64 (b := b) (n := n) (by omega)
        have hs9 := sval9 b n (by omega) (by omega) p4 hc.1
        have hmod : val b n % 18446744073709551616 = val b n := Int.emod_eq_of_lt hv0.1 (by omega)
        rw [hmod, w64 (x := val b n) (by omega) (by omega), rd_nat]
        have hover : ∀ z, leb_place_over.f b bits (n : Int) z = some false := by
          intro z
          unfold leb_place_over.f
          rw [if_neg (by omega)]
        by_cases h64 : b.getD (n - 1) 0 < 64
        · have hs : sval b n = val b n := by unfold sval; rw [if_pos h64]; omega
          rw [if_pos (ha.2 (by omega)), hover, Option.bind_some, if_neg (by simp), if_neg (by omega), signed_j0 b n (val b n) bits hbb.1 hbb.2 (by omega) (by omega) (k + 3), ← hs]
          rfl
        · have hs : sval b n = val b n - 2 ^ (7 * n) := by unfold sval; rw [if_neg h64, pow128]
          have hvp : val b n < 2 ^ (7 * n) := by have := hv0.2; rwa [pow128] at this
          rw [if_neg (fun h => h64 (by have := ha.1 h; omega)), if_pos (by omega), if_pos (by omega), shlm (by omega), orm (by omega) hv0.1 hvp, ← hs]
          simp only [leb_place_signed.j1, if_true, leb_place_signed.j2, hover, Option.bind_some]
          rw [if_neg (by simp), if_neg (by omega), signed_j3 b n (sval b n) bits hbb.1 hbb.2 (by omega) (by omega) (k + 1)]
          rfl
  · rw [if_neg hbb]
    unfold readS
    rw [if_neg hbb]
    rfl

end Go.Proofs.Ytlahigmoljflkaa.Q
