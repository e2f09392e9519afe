import Derived.Test.YtlahigmoljflkaaPAllx23
import Derived.Test.YtlahigmoljflkaaQLebU
import Derived.Test.YtlahigmoljflkaaQLebS
import Derived.Test.YtlahigmoljflkaaQLebP
/- A number's groups, read back; what is read, is read ahead of anything. -/
namespace Go.Proofs.Ytlahigmoljflkaa.Q
open Go.RowKit Go.Proofs.Ytlahigmoljflkaa.PAll Go.Proofs.YtlahigmoljflkaaW.PrintWords Go.Proofs.YtlahigmoljflkaaW.PrintLast Go.Proofs.YtlahigmoljflkaaW.PrintMore Go.Proofs.YtlahigmoljflkaaU
set_option linter.unusedVariables false
set_option linter.unusedSimpArgs false
theorem getD_app {a b : List Int} {j : Nat} (h : j < a.length) : (a ++ b).getD j 0 = a.getD j 0 := by
  simp [List.getD_eq_getElem?_getD, List.getElem?_append_left h]
theorem getD_set_ne {a : List Int} {n j : Nat} {z : Int} (h : n ≠ j) : (a.set n z).getD j 0 = a.getD j 0 := by
  simp [List.getD_eq_getElem?_getD, List.getElem?_set, h]

theorem pu_get : ∀ (d : Nat) (x : Int), 0 ≤ x → x < 128 ^ (d + 1) → ∀ j, j < (pu d x).length → (128 ≤ (pu d x).getD j 0 ↔ j + 1 < (pu d x).length)
  | 0, x, h0, h1, j, hj => by
    simp only [pu] at hj ⊢
    simp only [List.length_cons, List.length_nil] at hj ⊢
    obtain rfl : j = 0 := by omega
    simp only [List.getD_cons_zero]
    omega
  | d + 1, x, h0, h1, j, hj => by
    simp only [pu] at hj ⊢
    by_cases h : x ≥ 128
    · rw [if_pos h] at hj ⊢
      rw [Int.pow_succ] at h1
      have ih := pu_get d (x / 128) (by omega) (by omega)
      have hl := pu_length d (x / 128)
      cases j with
      | zero => simp only [List.getD_cons_zero, List.length_cons]; omega
      | succ j =>
        simp only [List.getD_cons_succ, List.length_cons] at hj ⊢
        have := ih j (by omega)
        omega
    · rw [if_neg h] at hj ⊢
      simp only [List.length_cons, List.length_nil] at hj ⊢
      obtain rfl : j = 0 := by omega
      simp only [List.getD_cons_zero]
      omega
theorem ps_get : ∀ (d : Nat) (x : Int), ∀ j, j < (ps d x).length → (128 ≤ (ps d x).getD j 0 ↔ j + 1 < (ps d x).length)
  | 0, x, j, hj => by
    simp only [ps] at hj ⊢
    simp only [List.length_cons, List.length_nil] at hj ⊢
    obtain rfl : j = 0 := by omega
    simp only [List.getD_cons_zero]
    omega
  | d + 1, x, j, hj => by
    simp only [ps] at hj ⊢
    by_cases h : x < -64 ∨ 64 ≤ x
    · rw [if_pos h] at hj ⊢
      have ih := ps_get d (x / 128)
      have hl := ps_length d (x / 128)
      cases j with
      | zero => simp only [List.getD_cons_zero, List.length_cons]; omega
      | succ j =>
        simp only [List.getD_cons_succ, List.length_cons] at hj ⊢
        have := ih j (by omega)
        omega
    · rw [if_neg h] at hj ⊢
      simp only [List.length_cons, List.length_nil] at hj ⊢
      obtain rfl : j = 0 := by omega
      simp only [List.getD_cons_zero]
      omega
theorem pu_bytes : ∀ (d : Nat) (x : Int), ∀ y ∈ pu d x, 0 ≤ y ∧ y ≤ 255
  | 0, x, y, h => by
    simp only [pu, List.mem_singleton] at h
    omega
  | d + 1, x, y, h => by
    simp only [pu] at h
    split at h
    · rcases List.mem_cons.1 h with rfl | h
      · omega
      · exact pu_bytes d _ y h
    · simp only [List.mem_singleton] at h
      omega
theorem ps_bytes : ∀ (d : Nat) (x : Int), ∀ y ∈ ps d x, 0 ≤ y ∧ y ≤ 255
  | 0, x, y, h => by
    simp only [ps, List.mem_singleton] at h
    omega
  | d + 1, x, y, h => by
    simp only [ps] at h
    split at h
    · rcases List.mem_cons.1 h with rfl | h
      · omega
      · exact ps_bytes d _ y h
    · simp only [List.mem_singleton] at h
      omega

theorem val_cons (c : Int) (t : List Int) : ∀ n, val (c :: t) (n + 1) = c % 128 + 128 * val t n
  | 0 => by simp [val]
  | n + 1 => by
    have h := val_cons c t n
    show val (c :: t) (n + 1) + ((c :: t).getD (n + 1) 0 % 128) * 128 ^ (n + 1) = c % 128 + 128 * (val t n + (t.getD n 0 % 128) * 128 ^ n)
    rw [h, List.getD_cons_succ, Int.pow_succ, ← Int.mul_assoc, Int.mul_comm _ (128 : Int)]
    generalize t.getD n 0 % 128 * 128 ^ n = q
    omega
theorem pu_val : ∀ (d : Nat) (x : Int), 0 ≤ x → x < 128 ^ (d + 1) → val (pu d x) (pu d x).length = x
  | 0, x, h0, h1 => by
    show val [x % 256] (0 + 1) = x
    rw [val_cons]
    simp only [val]
    omega
  | d + 1, x, h0, h1 => by
    simp only [pu]
    by_cases h : x ≥ 128
    · rw [if_pos h, List.length_cons, val_cons, pu_val d (x / 128) (by omega) (by rw [Int.pow_succ] at h1; omega)]
      omega
    · rw [if_neg h]
      show val [x % 256] (0 + 1) = x
      rw [val_cons]
      simp only [val]
      omega
theorem sval_cons (c : Int) (t : List Int) (n : Nat) (h : 1 ≤ n) : sval (c :: t) (n + 1) = c % 128 + 128 * sval t n := by
  unfold sval
  rw [val_cons, show n + 1 - 1 = (n - 1) + 1 by omega, List.getD_cons_succ]
  split
  · omega
  · rw [Int.pow_succ]; omega
theorem ps_val : ∀ (d : Nat) (x : Int), -(64 * 128 ^ d) ≤ x → x < 64 * 128 ^ d → sval (ps d x) (ps d x).length = x
  | 0, x, h0, h1 => by
    show sval [x % 128] (0 + 1) = x
    unfold sval
    rw [val_cons]
    simp only [val, List.getD_cons_zero, Nat.zero_add, Nat.sub_self, Int.pow_succ, Int.pow_zero]
    split <;> omega
  | d + 1, x, h0, h1 => by
    have hl := ps_length d (x / 128)
    simp only [ps]
    by_cases h : x < -64 ∨ 64 ≤ x
    · rw [if_pos h, List.length_cons, sval_cons _ _ _ hl.1, ps_val d (x / 128) (by rw [Int.pow_succ] at h0; omega) (by rw [Int.pow_succ] at h1; omega)]
      omega
    · rw [if_neg h]
      show sval [x % 128] (0 + 1) = x
      unfold sval
      rw [val_cons]
      simp only [val, List.getD_cons_zero, Nat.zero_add, Nat.sub_self, Int.pow_succ, Int.pow_zero]
      split <;> omega

/-- Groups that go on up to the last. -/
structure Grp (E : List Int) : Prop where
  by_ : ∀ y ∈ E, 0 ≤ y ∧ y ≤ 255
  lo : 1 ≤ E.length
  hi : E.length ≤ 10
  go : ∀ j, j < E.length → (128 ≤ E.getD j 0 ↔ j + 1 < E.length)
theorem bytes_of {E : List Int} (hl : E.length < 140737488355328) (h : ∀ y ∈ E, 0 ≤ y ∧ y ≤ 255) : Bytes E := by
  refine ⟨hl, fun i => ?_⟩
  rcases Nat.lt_or_ge i E.length with hi | hi
  · rw [List.getD_eq_getElem?_getD, List.getElem?_eq_getElem hi]
    exact h _ (List.getElem_mem hi)
  · rw [List.getD_eq_getElem?_getD, List.getElem?_eq_none hi]
    simp
theorem grp_pu (x : Int) (h0 : 0 ≤ x) (h1 : x ≤ 18446744073709551615) : Grp (pu 9 x) :=
  ⟨pu_bytes 9 x, (pu_length 9 x).1, (pu_length 9 x).2, pu_get 9 x h0 (by rw [show (128 : Int) ^ (9 + 1) = 1180591620717411303424 from by decide]; omega)⟩
theorem grp_ps (x : Int) : Grp (ps 9 x) := ⟨ps_bytes 9 x, (ps_length 9 x).1, (ps_length 9 x).2, ps_get 9 x⟩
theorem grp_last {E : List Int} (h : Grp E) : 0 ≤ E.getD (E.length - 1) 0 ∧ E.getD (E.length - 1) 0 < 128 := by
  have h1 := h.lo
  have h2 := h.go (E.length - 1) (by omega)
  have h3 := (bytes_of (E := E) (by have := h.hi; omega) h.by_).2 (E.length - 1)
  omega
theorem grp_scan {E : List Int} (h : Grp E) (r : List Int) (D : Nat) (hD : E.length ≤ D) : scan (E ++ r) D 0 = E.length := by
  have h1 := h.lo
  refine scan_is _ _ (by simp) ?_ D 0 (by omega) (by omega) fun j _ hj => ?_
  · rw [getD_app (by omega)]
    exact (grp_last h).2
  · rw [getD_app (by omega)]
    have := h.go j (by omega)
    omega
theorem val_app {E : List Int} (r : List Int) (n : Nat) (h : n ≤ E.length) : val (E ++ r) n = val E n := val_congr _ _ _ fun i hi => by rw [getD_app (by omega)]
theorem pu_len : ∀ (d n : Nat) (x : Int), x < 128 ^ (n + 1) → (pu d x).length ≤ n + 1
  | 0, n, x, _ => by simp [pu]
  | d + 1, n, x, h => by
    unfold pu
    split
    · rename_i hx
      cases n with
      | zero => simp at h; omega
      | succ n =>
        have := pu_len d n (x / 128) (by rw [Int.pow_succ] at h; omega)
        simp only [List.length_cons]
        omega
    · simp
theorem ps_len : ∀ (d n : Nat) (x : Int), -(64 * 128 ^ n) ≤ x → x < 64 * 128 ^ n → (ps d x).length ≤ n + 1
  | 0, n, x, _, _ => by simp [ps]
  | d + 1, n, x, h0, h => by
    unfold ps
    split
    · rename_i hx
      cases n with
      | zero => simp at h h0; omega
      | succ n =>
        have e : (128 : Int) ^ (n + 1) = 128 ^ n * 128 := Int.pow_succ ..
        rw [e] at h h0
        have := ps_len d n (x / 128) (by omega) (by omega)
        simp only [List.length_cons]
        omega
    · simp
theorem scan_app {b : List Int} {D n : Nat} (h : scan b D 0 = n) (h0 : n ≠ 0) (r : List Int) : scan (b ++ r) D 0 = n := by
  obtain ⟨h1, h2, h3, h4, h5⟩ := scan_pos b D 0 n h h0
  refine scan_is _ _ (by rw [List.length_append]; omega) (by rw [getD_app (by omega)]; exact h4) D 0 h1 h2 fun j hj hjn => ?_
  rw [getD_app (by omega)]
  exact h5 j hj hjn

def numS (s : List Int) : Option (Int × List Int) := match readU s 32 with
  | some (v, n) => some (v, s.drop n)
  | none => none
def sigS (bits : Int) (s : List Int) : Option (Int × List Int) := match readS s bits with
  | some (v, n) => some (v, s.drop n)
  | none => none
theorem readU_some {s : List Int} {v : Int} {n : Nat} : readU s 32 = some (v, n) ↔ scan s 5 0 = n ∧ n ≠ 0 ∧ val s n = v ∧ v < 4294967296 := by
  unfold readU ruint
  rw [if_pos (by omega)]
  have m : most 32 = 5 := by decide
  have p : (2 : Int) ^ (32 : Int).toNat = 4294967296 := by decide
  rw [m, p]
  simp only
  constructor
  · intro h
    split at h
    · cases h
    · rename_i hn
      injection h with h
      injection h with h1 h2
      subst h1 h2
      exact ⟨rfl, fun h => hn (.inl h), rfl, by omega⟩
  · rintro ⟨rfl, h0, rfl, h⟩
    rw [if_neg (by omega)]
theorem numS_some {s t : List Int} {v : Int} (h : numS s = some (v, t)) : ∃ n, readU s 32 = some (v, n) ∧ t = s.drop n := by
  unfold numS at h
  split at h
  · rename_i v' n hr
    injection h with h
    injection h with h1 h2
    exact ⟨n, by rw [hr, h1], h2.symm⟩
  · cases h
theorem numS_enc (v : Int) (h0 : 0 ≤ v) (h1 : v < 4294967296) (r : List Int) : numS (pu 9 v ++ r) = some (v, r) := by
  have g := grp_pu v h0 (by omega)
  have hl := pu_len 9 4 v (by rw [show (128 : Int) ^ (4 + 1) = 34359738368 from by decide]; omega)
  have : readU (pu 9 v ++ r) 32 = some (v, (pu 9 v).length) := by
    refine readU_some.2 ⟨grp_scan g r 5 hl, by have := g.lo; omega, ?_, h1⟩
    rw [val_app r _ (Nat.le_refl _)]
    exact pu_val 9 v h0 (by rw [show (128 : Int) ^ (9 + 1) = 1180591620717411303424 from by decide]; omega)
  unfold numS
  rw [this]
  simp
theorem numS_app {s t : List Int} {v : Int} (h : numS s = some (v, t)) (r : List Int) : numS (s ++ r) = some (v, t ++ r) := by
  obtain ⟨n, hr, rfl⟩ := numS_some h
  obtain ⟨h1, h2, h3, h4⟩ := readU_some.1 hr
  have hp := scan_pos s 5 0 n h1 h2
  have : readU (s ++ r) 32 = some (v, n) := readU_some.2 ⟨scan_app h1 h2 r, h2, by rw [val_app r _ hp.2.2.1]; exact h3, h4⟩
  unfold numS
  rw [this]
  simp only
  rw [List.drop_append_of_le_length hp.2.2.1]
theorem numS_word {s t : List Int} {v : Int} (h : numS s = some (v, t)) : 0 ≤ v ∧ v < 4294967296 ∧ t.length + (pu 9 v).length ≤ s.length ∧ ∃ E, s = E ++ t := by
  obtain ⟨n, hr, rfl⟩ := numS_some h
  obtain ⟨h1, h2, h3, h4⟩ := readU_some.1 hr
  have hp := scan_pos s 5 0 n h1 h2
  have hb := val_bound s n
  refine ⟨by omega, h4, ?_, s.take n, (List.take_append_drop n s).symm⟩
  have := pu_len 9 (n - 1) v (by rw [show n - 1 + 1 = n from by omega]; omega)
  rw [List.length_drop]
  omega

/-- So many groups at most, and this bound. -/
def SB (bits : Int) (D : Nat) (M : Int) : Prop := bits = 32 ∧ D = 5 ∧ M = 2147483648 ∨ bits = 64 ∧ D = 10 ∧ M = 9223372036854775808
theorem readS_some {s : List Int} {bits v M : Int} {n D : Nat} (hB : SB bits D M) : readS s bits = some (v, n) ↔ scan s D 0 = n ∧ n ≠ 0 ∧ sval s n = v ∧ -M ≤ v ∧ v < M := by
  have hb : 1 ≤ bits ∧ bits ≤ 64 := by rcases hB with h | h <;> omega
  have m : most bits = D := by rcases hB with ⟨rfl, rfl, rfl⟩ | ⟨rfl, rfl, rfl⟩ <;> decide
  have p : (2 : Int) ^ (bits.toNat - 1) = M := by rcases hB with ⟨rfl, rfl, rfl⟩ | ⟨rfl, rfl, rfl⟩ <;> decide
  unfold readS rsint
  rw [if_pos hb, m, p]
  simp only
  constructor
  · intro h
    split at h
    · cases h
    · rename_i hn
      injection h with h
      injection h with h1 h2
      subst h1 h2
      exact ⟨rfl, fun h => hn (.inl h), rfl, by omega, by omega⟩
  · rintro ⟨rfl, h0, rfl, h, h'⟩
    rw [if_neg (by omega)]
theorem sigS_some {bits : Int} {s t : List Int} {v : Int} (h : sigS bits s = some (v, t)) : ∃ n, readS s bits = some (v, n) ∧ t = s.drop n := by
  unfold sigS at h
  split at h
  · rename_i v' n hr
    injection h with h
    injection h with h1 h2
    exact ⟨n, by rw [hr, h1], h2.symm⟩
  · cases h
theorem sval_app {E : List Int} (r : List Int) (n : Nat) (h0 : 1 ≤ n) (h : n ≤ E.length) : sval (E ++ r) n = sval E n := by
  unfold sval
  rw [val_app r _ h, getD_app (by omega)]
theorem sigS_enc {bits M : Int} {D : Nat} (hB : SB bits D M) (v : Int) (h0 : -M ≤ v) (h1 : v < M) (r : List Int) : sigS bits (ps 9 v ++ r) = some (v, r) := by
  have g := grp_ps v
  have hl : (ps 9 v).length ≤ D := by
    rcases hB with ⟨rfl, rfl, rfl⟩ | ⟨rfl, rfl, rfl⟩
    · exact ps_len 9 4 v (by rw [show (64 * (128 : Int) ^ 4) = 17179869184 from by decide]; omega) (by rw [show (64 * (128 : Int) ^ 4) = 17179869184 from by decide]; omega)
    · exact (ps_length 9 v).2
  have hv : -9223372036854775808 ≤ v ∧ v ≤ 9223372036854775807 := by rcases hB with h | h <;> omega
  have : readS (ps 9 v ++ r) bits = some (v, (ps 9 v).length) := by
    refine (readS_some hB).2 ⟨grp_scan g r D hl, by have := g.lo; omega, ?_, h0, h1⟩
    rw [sval_app r _ g.lo (Nat.le_refl _)]
    exact ps_val 9 v (by rw [show (64 * (128 : Int) ^ 9) = 590295810358705651712 from by decide]; omega) (by rw [show (64 * (128 : Int) ^ 9) = 590295810358705651712 from by decide]; omega)
  unfold sigS
  rw [this]
  simp
theorem sigS_app {bits M : Int} {D : Nat} (hB : SB bits D M) {s t : List Int} {v : Int} (h : sigS bits s = some (v, t)) (r : List Int) : sigS bits (s ++ r) = some (v, t ++ r) := by
  obtain ⟨n, hr, rfl⟩ := sigS_some h
  obtain ⟨h1, h2, h3, h4⟩ := (readS_some hB).1 hr
  have hp := scan_pos s D 0 n h1 h2
  have : readS (s ++ r) bits = some (v, n) := (readS_some hB).2 ⟨scan_app h1 h2 r, h2, by rw [sval_app r _ (by omega) hp.2.2.1]; exact h3, h4⟩
  unfold sigS
  rw [this]
  simp only
  rw [List.drop_append_of_le_length hp.2.2.1]
theorem sigS_word {bits M : Int} {D : Nat} (hB : SB bits D M) {s t : List Int} {v : Int} (hs : ∀ i, 0 ≤ s.getD i 0) (h : sigS bits s = some (v, t)) : -M ≤ v ∧ v < M ∧ t.length + (ps 9 v).length ≤ s.length ∧ ∃ E, s = E ++ t := by
  obtain ⟨n, hr, rfl⟩ := sigS_some h
  obtain ⟨h1, h2, h3, h4, h5⟩ := (readS_some hB).1 hr
  have hp := scan_pos s D 0 n h1 h2
  have hb := sval_lt s n (by omega) hp.2.2.2.1 (hs _)
  refine ⟨h4, h5, ?_, s.take n, (List.take_append_drop n s).symm⟩
  have := ps_len 9 (n - 1) v (by omega) (by omega)
  rw [List.length_drop]
  omega
end Go.Proofs.Ytlahigmoljflkaa.Q
