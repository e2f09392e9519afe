import Derived.Test.YtlahigmoljflkaaPAllx2
import Derived.Test.YtlahigmoljflkaaQLeb
/- What leb.Uint and the reference's Uint come to: the number that the head says, if it has so many bits. -/
namespace Go.Proofs.Ytlahigmoljflkaa.Q
open Go.RowKit Go.Proofs.Ytlahigmoljflkaa.PAll Go.Proofs.YtlahigmoljflkaaW.PrintWords Go.Proofs.YtlahigmoljflkaaW.PrintLast Go.Proofs.YtlahigmoljflkaaW.PrintMore Go.Proofs.YtlahigmoljflkaaU
set_option linter.unusedVariables false

def Bytes (b : List Int) : Prop := b.length < 140737488355328 ∧ ∀ i, 0 ≤ b.getD i 0 ∧ b.getD i 0 ≤ 255
theorem Bytes.of {b : List Int} (hl : b.length < 140737488355328) (h : ∀ x ∈ b, (Lit.int .u8 x).wf = true) : Bytes b := by
  refine ⟨hl, fun i => ?_⟩
  rcases Nat.lt_or_ge i b.length with hi | hi
  · rw [List.getD_eq_getElem?_getD, List.getElem?_eq_getElem hi]
    exact bd8 (h _ (List.getElem_mem hi))
  · rw [List.getD_eq_getElem?_getD, List.getElem?_eq_none hi]
    simp

theorem groups_l0 (b : List Int) (hb : Bytes b) (bits : Int) (hb1 : 1 ≤ bits) (hb2 : bits ≤ 64) : ∀ (d i : Nat), i + d = most bits → ∀ k, 2 * d + 3 ≤ k →
    leb_place_groups.l0 k (val b i % 18446744073709551616) (i : Int) b bits = some (if scan b d i = 0 then (0, 0, 100) else (val b (scan b d i) % 18446744073709551616, (scan b d i : Int), 0)) := by
  have hm := most_le hb1 hb2
  intro d
  induction d with
  | zero =>
    intro i hi k hk
    obtain ⟨k, rfl⟩ : ∃ m, k = m + 2 := ⟨k - 2, by omega⟩
    simp only [leb_place_groups.l0, most_eq hb1 hb2, scan]
    have hf : decide ((i : Int) < (most bits : Int)) = false := decide_eq_false (by omega)
    rw [hf]
    split <;> simp [leb_place_groups.j2]
  | succ d ih =>
    intro i hi k hk
    obtain ⟨k, rfl⟩ : ∃ m, k = m + 2 := ⟨k - 2, by omega⟩
    simp only [leb_place_groups.l0, most_eq hb1 hb2]
    have ht : decide ((i : Int) < (most bits : Int)) = true := decide_eq_true (by omega)
    rw [ht]
    by_cases hl : i < b.length
    · rw [if_pos (by omega)]
      simp only [leb_place_groups.j2, if_true]
      have e1 : wrap64 (7 * (i : Int)) = ((7 * i : Nat) : Int) := by rw [w64 (by omega) (by omega)]; omega
      have e3 : wrap64 ((i : Int) + 1) = ((i + 1 : Nat) : Int) := by rw [w64 (by omega) (by omega)]; omega
      have hc := hb.2 i
      rw [if_pos (by omega), if_pos (by omega), e1, e3, if_pos (by omega), if_pos (by omega), rd_nat, and127 hc.1 hc.2, or_step b i (by omega) _ rfl]
      simp only [scan, hl, if_true]
      by_cases hlt : b.getD i 0 < 128
      · rw [if_pos hlt, if_pos hlt]
        simp
      · rw [if_neg hlt, if_neg hlt]
        exact ih (i + 1) (by omega) k (by omega)
    · rw [if_neg (by omega)]
      simp only [leb_place_groups.j2, scan, hl]
      simp

theorem groups_ev (b : List Int) (hb : Bytes b) (bits : Int) (k : Nat) (hk : 30 ≤ k) :
    leb_place_groups.f k b bits = some (if 1 ≤ bits ∧ bits ≤ 64 then (if scan b (most bits) 0 = 0 then (0, 0, 100) else (val b (scan b (most bits) 0) % 18446744073709551616, (scan b (most bits) 0 : Int), 0)) else (0, 0, 100)) := by
  obtain ⟨k, rfl⟩ : ∃ m, k = m + 1 := ⟨k - 1, by omega⟩
  unfold leb_place_groups.f
  simp only [leb_place_groups.j0, if_true]
  by_cases h1 : bits < 1
  · rw [if_pos h1, if_neg (by omega)]
  · rw [if_neg h1]
    by_cases h2 : bits > 64
    · rw [if_pos (by simpa using h2), if_neg (by omega)]
    · rw [if_neg (by simpa using h2), if_pos (by omega)]
      have := groups_l0 b hb bits (by omega) (by omega) (most bits) 0 (by omega) k (by have := most_le (bits := bits) (by omega) (by omega); omega)
      exact this

theorem over0 : ∀ c : Int, 0 ≤ c → c ≤ 255 → ((Go.bits .and .u8 (Go.bits .xor .u8 c 0) 126) != 0) = decide (2 ≤ c % 128) := by
  intro c h0 h1
  have := byteall (fun c => (((Go.bits .and .u8 (Go.bits .xor .u8 c 0) 126) != 0) == decide (2 ≤ c % 128))) (by decide +kernel) c h0 h1
  simpa using this

theorem val_top (b : List Int) (h : Bytes b) : (18446744073709551616 ≤ val b 10) ↔ 2 ≤ b.getD 9 0 % 128 := by
  obtain ⟨h0, h1⟩ := val_bound b 9
  have e : val b 10 = val b 9 + b.getD 9 0 % 128 * 9223372036854775808 := rfl
  rw [show (128 : Int) ^ 9 = 9223372036854775808 from by decide] at h1
  rw [e]
  omega

theorem pow_lt64 {b : List Int} {n : Nat} (h : n ≤ 9) : val b n < 9223372036854775808 := by
  obtain ⟨h0, h1⟩ := val_bound b n
  have : (128 : Int) ^ n ≤ 128 ^ 9 := by
    have : (128 : Nat) ^ n ≤ 128 ^ 9 := Nat.pow_le_pow_right (by decide) h
    exact_mod_cast this
  rw [show (128 : Int) ^ 9 = 9223372036854775808 from by decide] at this
  omega

theorem two_pow_le {n m : Nat} (h : n ≤ m) : (2 : Int) ^ n ≤ 2 ^ m := by
  have : (2 : Nat) ^ n ≤ 2 ^ m := Nat.pow_le_pow_right (by decide) h
  exact_mod_cast this

theorem shl1 {bits : Int} (h0 : 0 ≤ bits) (h1 : bits < 64) : shl .u64 1 bits = 2 ^ bits.toNat := by
  unfold shl
  have : min bits.toNat IntKind.u64.bits = bits.toNat := by simp [IntKind.bits]; omega
  rw [this, wu64, Int.one_mul]
  refine Int.emod_eq_of_lt (Int.le_of_lt (Int.pow_pos (by decide))) ?_
  have := two_pow_le (n := bits.toNat) (m := 63) (by omega)
  have e : (2 : Int) ^ 63 = 9223372036854775808 := by decide
  omega

def outU : Option (Int × Nat) → Int × Int × Int
  | none => (0, 0, 100)
  | some (v, n) => (v, (n : Int), 0)
def readU (b : List Int) (bits : Int) : Option (Int × Nat) := if 1 ≤ bits ∧ bits ≤ 64 then ruint b bits else none

theorem uint_ev (b : List Int) (hb : Bytes b) (bits : Int) (k : Nat) (hk : 30 ≤ k) : leb_Uint.f k b bits = some (outU (readU b bits)) := by
  unfold leb_Uint.f leb_place_unsigned.f
  rw [groups_ev b hb bits k hk]
  unfold readU ruint
  by_cases hbb : 1 ≤ bits ∧ bits ≤ 64
  · rw [if_pos hbb, if_pos hbb]
    obtain ⟨hb1, hb2⟩ := hbb
    have hm := most_le hb1 hb2
    generalize hn : scan b (most bits) 0 = n
    by_cases hn0 : n = 0
    · simp [hn0, outU]
    · obtain ⟨p1, p2, p3, p4, p5⟩ := scan_pos b _ 0 n hn hn0
      simp only [hn0, if_false, Option.bind_some, if_true, false_or]
      unfold leb_place_over.f
      have hv0 := val_bound b n
      by_cases h10 : n = 10
      · subst h10
        have hbits : bits = 64 := hm.2.2 (by omega)
        subst hbits
        have hc := hb.2 9
        rw [if_pos (show ((10 : Nat) : Int) = 10 from rfl), if_pos (by omega), show rd b 9 = b.getD 9 0 from rfl, over0 _ hc.1 hc.2]
        have ht := val_top b hb
        simp only [Option.bind_some]
        by_cases h2 : 2 ≤ b.getD 9 0 % 128
        · rw [if_pos (by simpa using h2)]
          have : (2 : Int) ^ (64 : Int).toNat ≤ val b 10 := by rw [show (2 : Int) ^ (64 : Int).toNat = 18446744073709551616 from by decide]; exact ht.2 h2
          rw [if_pos this]
          rfl
        · rw [if_neg (by simpa using h2), if_neg (by omega)]
          have h3 : ¬ (18446744073709551616 ≤ val b 10) := fun h => h2 (ht.1 h)
          have : ¬ (2 : Int) ^ (64 : Int).toNat ≤ val b 10 := by rw [show (2 : Int) ^ (64 : Int).toNat = 18446744073709551616 from by decide]; exact h3
          rw [if_neg this, Int.emod_eq_of_lt hv0.1 (by omega)]
          rfl
      · have hlt := pow_lt64 (b := b) (n := n) (by omega)
        rw [if_neg (by omega), Int.emod_eq_of_lt hv0.1 (by omega)]
        simp only [Option.bind_some, Bool.false_eq_true, if_false]
        by_cases h64 : bits < 64
        · rw [if_pos h64, if_pos (by omega), shl1 (by omega) h64]
          by_cases hv : val b n ≥ 2 ^ bits.toNat
          · rw [if_pos hv, if_pos hv]; rfl
          · rw [if_neg hv, if_neg hv]; rfl
        · obtain rfl : bits = 64 := by omega
          rw [if_neg h64]
          have : ¬ (2 : Int) ^ (64 : Int).toNat ≤ val b n := by rw [show (2 : Int) ^ (64 : Int).toNat = 18446744073709551616 from by decide]; omega
          rw [if_neg this]
          rfl
  · rw [if_neg hbb, if_neg hbb]
    rfl

end Go.Proofs.Ytlahigmoljflkaa.Q
