/- What the calls of a memory, and of the reference's, come to. -/
import Derived.Test.YtdoaininjfbemaaPAllx2
import Derived.Test.YtdoaininjfbemaaPAllx4
import Derived.Test.YtdoaininjfbemaaPAllx7
import Derived.Test.YtdoaininjfbemaaPAllx3
import Derived.Test.YtdoaininjfbemaaPur
namespace Go.Proofs.Ytdoaininjfbemaa.Q
open Go.RowKit Go.Proofs.Ytdoaininjfbemaa.PAll Go.Proofs.YtdoaininjfbemaaW.PrintWords Go.Proofs.YtdoaininjfbemaaW.PrintLast Go.Proofs.YtdoaininjfbemaaW.PrintMore Go.Proofs.YtdoaininjfbemaaU
set_option linter.unusedVariables false

/-- Step by step, without simp. -/
theorem bs {α β : Type} {x : Option α} {v : α} {f : α → Option β} {r : Option β} (h : x = some v) (h2 : f v = r) : x.bind f = r := by rw [h]; exact h2
theorem ip {α : Type} {c : Prop} [Decidable c] {a b r : α} (h : c) (e : a = r) : (if c then a else b) = r := by rw [if_pos h]; exact e
theorem ineg {α : Type} {c : Prop} [Decidable c] {a b r : α} (h : ¬ c) (e : b = r) : (if c then a else b) = r := by rw [if_neg h]; exact e
/-- A row of bytes. -/
def Byt (l : List Int) : Prop := ∀ x ∈ l, 0 ≤ x ∧ x < 256
theorem Byt.rep (n : Nat) : Byt (List.replicate n 0) := by
  intro x hx
  rw [List.eq_of_mem_replicate hx]
  omega
theorem Byt.append {a b : List Int} (h : Byt a) (h' : Byt b) : Byt (a ++ b) := by
  intro x hx
  rcases List.mem_append.1 hx with hx | hx
  · exact h x hx
  · exact h' x hx
theorem Byt.take {a : List Int} (h : Byt a) (n : Nat) : Byt (a.take n) := fun x hx => h x (List.mem_of_mem_take hx)
theorem Byt.drop {a : List Int} (h : Byt a) (n : Nat) : Byt (a.drop n) := fun x hx => h x (List.mem_of_mem_drop hx)
theorem Byt.splice {a b : List Int} (h : Byt a) (h' : Byt b) (i : Nat) : Byt (splice a i b) := ((h.take _).append h').append (h.drop _)
theorem Byt.le (v : Int) (n : Nat) : Byt (le v n) := by
  intro x hx
  simp only [Go.Proofs.YtdoaininjfbemaaU.le, List.mem_map] at hx
  obtain ⟨j, _, rfl⟩ := hx
  omega
theorem Byt.getD {a : List Int} (h : Byt a) (i : Nat) : 0 ≤ a.getD i 0 ∧ a.getD i 0 < 256 := by
  rw [List.getD_eq_getElem?_getD]
  rcases Nat.lt_or_ge i a.length with hi | hi
  · rw [List.getElem?_eq_getElem hi]
    exact h _ (List.getElem_mem hi)
  · rw [List.getElem?_eq_none hi]
    simp

/-- The number that bytes are, the lowest first. -/
def num : List Int → Int
  | [] => 0
  | c :: r => c + 256 * num r
theorem num_snoc : ∀ (l : List Int) (c : Int), num (l ++ [c]) = num l + 2 ^ (8 * l.length) * c
  | [], c => by simp [num]
  | x :: l, c => by
    rw [List.cons_append, num, num, num_snoc l c, List.length_cons, show 8 * (l.length + 1) = 8 * l.length + 8 by omega, Int.pow_add]
    have : (2 : Int) ^ 8 = 256 := by decide
    rw [this, Int.mul_add, ← Int.mul_assoc, Int.mul_comm 256 (2 ^ (8 * l.length)), Int.add_assoc]
theorem num_bd : ∀ (l : List Int), Byt l → 0 ≤ num l ∧ num l < 2 ^ (8 * l.length)
  | [], _ => by simp [num]
  | x :: l, h => by
    have hx := h x List.mem_cons_self
    have hl := num_bd l (fun y hy => h y (List.mem_cons_of_mem _ hy))
    rw [num, List.length_cons, show 8 * (l.length + 1) = 8 * l.length + 8 by omega, Int.pow_add]
    have : (2 : Int) ^ 8 = 256 := by decide
    rw [this]
    omega
theorem num_le (v : Int) : ∀ n : Nat, num (le v n) = v % 2 ^ (8 * n)
  | 0 => by simp [num, Go.Proofs.YtdoaininjfbemaaU.le, Int.emod_one]
  | n + 1 => by
    rw [le_succ, num_snoc, num_le v n, le_length, show 8 * (n + 1) = 8 * n + 8 by omega, Int.pow_add]
    have h256 : (2 : Int) ^ 8 = 256 := by decide
    rw [h256]
    have hp : (0 : Int) < 2 ^ (8 * n) := Int.pow_pos (by decide)
    have h1 := Int.emod_add_mul_ediv v (2 ^ (8 * n))
    have h2 := Int.emod_add_mul_ediv (v / 2 ^ (8 * n)) 256
    have h3 := Int.emod_nonneg v (Int.ne_of_gt hp)
    have h4 := Int.emod_lt_of_pos v hp
    generalize hq : v / 2 ^ (8 * n) = q at *
    generalize hr : v % 2 ^ (8 * n) = r at *
    generalize hb : (2 : Int) ^ (8 * n) = b at *
    have h5 : 0 ≤ q % 256 ∧ q % 256 < 256 := by omega
    generalize hs : q % 256 = s at *
    generalize ht : q / 256 = t at *
    have hv : v = (r + b * s) + b * 256 * t := by
      rw [← h1, ← h2, Int.mul_add, ← Int.mul_assoc, Int.add_assoc]
    rw [hv, Int.add_mul_emod_self_left]
    refine (Int.emod_eq_of_lt ?_ ?_).symm
    · have := Int.mul_nonneg (Int.le_of_lt hp) h5.1
      omega
    · have : b * s ≤ b * 255 := Int.mul_le_mul_of_nonneg_left (by omega) (Int.le_of_lt hp)
      omega
theorem get_l0 (l : List Int) (hB : Byt l) (hl : l.length ≤ 8) : ∀ (d j : Nat), j + d = l.length → ∀ k, d < k → mem_word_get.l0 k (num (l.take j)) l (l.length : Int) (j : Int) = some (num l) := by
  intro d
  induction d with
  | zero =>
    intro j hj k hk
    obtain ⟨k, rfl⟩ : ∃ m, k = m + 1 := ⟨k - 1, by omega⟩
    simp only [mem_word_get.l0]
    rw [if_neg (by omega), List.take_of_length_le (by omega)]
  | succ d ih =>
    intro j hj k hk
    obtain ⟨k, rfl⟩ : ∃ m, k = m + 1 := ⟨k - 1, by omega⟩
    have e8 : wrap64 (8 * (j : Int)) = ((8 * j : Nat) : Int) := by rw [w64 (by omega) (by omega)]; omega
    have e1 : wrap64 ((j : Int) + 1) = ((j + 1 : Nat) : Int) := by rw [w64 (by omega) (by omega)]; omega
    simp only [mem_word_get.l0]
    rw [if_pos (by omega), if_pos (by omega), if_pos (by omega), e8, if_pos (by omega), e1]
    have hb := hB.getD j
    have hn := num_bd (l.take j) (hB.take j)
    have hlt : (l.take j).length = j := by rw [List.length_take]; omega
    rw [hlt] at hn
    have hj8 : j ≤ 7 := by omega
    have hpw : (2 : Int) ^ (8 * j) * 256 ≤ 18446744073709551616 := by
      have : j = 0 ∨ j = 1 ∨ j = 2 ∨ j = 3 ∨ j = 4 ∨ j = 5 ∨ j = 6 ∨ j = 7 := by omega
      rcases this with rfl | rfl | rfl | rfl | rfl | rfl | rfl | rfl <;> decide
    have hp : (0 : Int) < 2 ^ (8 * j) := Int.pow_pos (by decide)
    have hrd : rd l (j : Int) = l.getD j 0 := rd_nat l j
    rw [hrd]
    generalize hc : l.getD j 0 = c at *
    have hw : IntKind.u64.wrap c = c := by rw [wu64, Int.emod_eq_of_lt hb.1 (by omega)]
    have hy0 : 0 ≤ c * 2 ^ (8 * j) := Int.mul_nonneg hb.1 (Int.le_of_lt hp)
    have hy1 : c * 2 ^ (8 * j) < 18446744073709551616 := by
      have h1 : c * 2 ^ (8 * j) ≤ 255 * 2 ^ (8 * j) := Int.mul_le_mul_of_nonneg_right (by omega) (Int.le_of_lt hp)
      omega
    have hsh : shl .u64 c ((8 * j : Nat) : Int) = c * 2 ^ (8 * j) := by
      unfold shl
      have : min (((8 * j : Nat) : Int).toNat) IntKind.u64.bits = 8 * j := by simp [IntKind.bits]; omega
      rw [this, wu64, Int.emod_eq_of_lt hy0 hy1]
    rw [hw, hsh, or64 (p := 8 * j) (by omega) hn.1 hn.2 hy0 hy1 (Int.mul_emod_left _ _)]
    have hs : num (l.take j) + c * 2 ^ (8 * j) = num (l.take (j + 1)) := by
      rw [List.take_succ_eq_append_getElem (by omega), num_snoc, hlt, Int.mul_comm c]
      congr 2
      rw [← hc, List.getD_eq_getElem?_getD, List.getElem?_eq_getElem (by omega)]
      rfl
    rw [hs]
    exact ih (j + 1) (by omega) k (by omega)
theorem get_ok (l : List Int) (hB : Byt l) (hl : l.length ≤ 8) (k : Nat) (hk : l.length < k) : mem_word_get.f k l = some (num l) := get_l0 l hB hl l.length 0 (by omega) k hk
theorem get_nil (k : Nat) (hk : 0 < k) : mem_word_get.f k [] = some 0 := get_ok [] (fun x hx => by cases hx) (by simp) k hk

abbrev Fm := mem_Memory_Load.form
abbrev sub := mem_Memory_Load.sub
theorem form_n {a b n : Int} (h : Fm a b n) : (0 < n ∧ n ≤ 8) ∧ (0 ≤ a ∧ a < 4294967296) ∧ 0 ≤ b ∧ b < 4294967296 := ⟨by have := h.1; omega, h.2.1, h.2.2⟩
theorem sub_len {l : List Int} {a b n : Int} (h : Fm a b n) (hin : a + b + n ≤ (l.length : Int)) : (sub l a b n).length = n.toNat := by
  have := form_n h
  simp only [sub, mem_Memory_Load.sub, List.length_drop, List.length_take]
  omega
theorem load_ok {l : List Int} (s : Int) {a b n : Int} (hB : Byt l) (h : Fm a b n) (hin : a + b + n ≤ (l.length : Int)) (k : Nat) (hk : 8 < k) : mem_Memory_Load.f k l s a b n = some (num (sub l a b n), 0, l, s) := by
  have h8 := form_n h
  have hl := sub_len h hin
  unfold mem_Memory_Load.f
  rw [if_pos h, if_pos hin, get_ok (sub l a b n) ((hB.take _).drop _) (by omega) k (by omega)]
  rfl
theorem load_fault (l : List Int) (s : Int) {a b n : Int} (h : Fm a b n) (hin : ¬ a + b + n ≤ (l.length : Int)) (k : Nat) (hk : 0 < k) : mem_Memory_Load.f k l s a b n = some (0, 21, l, s) := by
  unfold mem_Memory_Load.f
  rw [if_pos h, if_neg hin, get_nil k hk]
  rfl
theorem load_form (l : List Int) (s : Int) {a b n : Int} (h : ¬ Fm a b n) (k : Nat) (hk : 0 < k) : mem_Memory_Load.f k l s a b n = some (0, 100, l, s) := by
  unfold mem_Memory_Load.f
  rw [if_neg h, get_nil k hk]
  rfl
theorem write_ok (l : List Int) (s : Int) {a : Int} {b : List Int} (h : 0 ≤ a ∧ a + (b.length : Int) ≤ (l.length : Int)) : mem_Memory_Write.f l s a b = some (0, splice l a.toNat b, s) := by
  unfold mem_Memory_Write.f
  rw [if_pos h]
theorem write_fault (l : List Int) (s : Int) {a : Int} {b : List Int} (h : ¬ (0 ≤ a ∧ a + (b.length : Int) ≤ (l.length : Int))) : mem_Memory_Write.f l s a b = some (21, l, s) := by
  unfold mem_Memory_Write.f
  rw [if_neg h]
theorem there_eq {l : List Int} (s a n : Int) (hl : l.length ≤ 9223372036854775807) : mem_Memory_there.f l s a n = some (decide (0 ≤ a ∧ 0 ≤ n ∧ a + n ≤ (l.length : Int)), l, s) := by
  unfold mem_Memory_there.f
  by_cases h1 : a ≥ 0
  · rw [if_pos h1]
    by_cases h2 : n ≥ 0
    · rw [if_pos h2]
      by_cases h3 : a ≤ (l.length : Int)
      · rw [if_pos h3, w64 (by omega) (by omega)]
        congr 2
        simp only [decide_eq_decide]
        omega
      · rw [if_neg h3]
        congr 2
        simp
        omega
    · rw [if_neg h2]
      congr 2
      simp
      omega
  · rw [if_neg h1]
    congr 2
    simp
    omega
theorem clone_eq (l : List Int) (h : l.length < 140737488355328) : slices_Clone_byte_byte.f l = some l := by
  unfold slices_Clone_byte_byte.f
  simp [h]
theorem read_ok {l : List Int} (s : Int) {a n : Int} (hl : l.length < 140737488355328) (h : 0 ≤ a ∧ 0 ≤ n ∧ a + n ≤ (l.length : Int)) : mem_Memory_Read.f l s a n = some ((l.take (a + n).toNat).drop a.toNat, 0, l, s) := by
  unfold mem_Memory_Read.f
  rw [there_eq s a n (by omega), decide_eq_true h]
  simp only [Option.bind_some, if_true]
  rw [if_pos h.1, w64 (by omega) (by omega), if_pos (by omega), if_pos h.2.2, clone_eq _ (by simp; omega)]
  rfl
theorem read_fault {l : List Int} (s : Int) {a n : Int} (hl : l.length < 140737488355328) (h : ¬ (0 ≤ a ∧ 0 ≤ n ∧ a + n ≤ (l.length : Int))) : mem_Memory_Read.f l s a n = some ([], 21, l, s) := by
  unfold mem_Memory_Read.f
  rw [there_eq s a n (by omega), decide_eq_false h]
  rfl
/-- A memory that may be, with what it begins. -/
theorem new_ok {mi ma li : Int} (h1 : 0 ≤ li ∧ li ≤ 16) (h2 : 0 ≤ mi) (h3 : ma = -1 ∨ mi ≤ ma) (h4 : mi ≤ li) (k : Nat) (hk : 0 < k) : mem_New.f k mi ma li = some (true, List.replicate (mi * 65536).toNat 0, if ma = -1 then li else mn li ma, 0) := by
  obtain ⟨k, rfl⟩ : ∃ m, k = m + 1 := ⟨k - 1, by omega⟩
  have hj : mem_New.j0 (k + 1) li false mi ma = some (true, List.replicate (mi * 65536).toNat 0, if ma = -1 then li else mn li ma, 0) := by
    simp only [mem_New.j0]
    rw [if_neg (by decide), if_neg (by omega), w64 (by omega) (by omega), if_pos (by omega), if_pos (by omega)]
    by_cases hm : ma = -1
    · simp [hm]
    · simp [hm]
  unfold mem_New.f
  rw [if_neg (by omega), if_neg (by omega), if_neg (by omega)]
  by_cases hm : ma = -1
  · rw [if_pos hm, hj]
  · rw [if_neg hm, decide_eq_false (by omega), hj]
end Go.Proofs.Ytdoaininjfbemaa.Q
