/- A number's groups, read back. -/
import Derived.Test.YtgmlnigelbplnaaPAllx8
import Derived.Test.YtgmlnigelbplnaaPAllx3
import Derived.Test.YtgmlnigelbplnaaQLebU
import Derived.Test.YtgmlnigelbplnaaQLebS
import Derived.Test.YtgmlnigelbplnaaQLebP
namespace Go.Proofs.Ytgmlnigelbplnaa.Q
open Go.RowKit Go.Proofs.Ytgmlnigelbplnaa.PAll Go.Proofs.YtgmlnigelbplnaaW.PrintWords Go.Proofs.YtgmlnigelbplnaaW.PrintLast Go.Proofs.YtgmlnigelbplnaaW.PrintMore Go.Proofs.YtgmlnigelbplnaaU
set_option linter.unusedVariables false

theorem getD_app {a b : List Int} {j : Nat} (h : j < a.length) : (a ++ b).getD j 0 = a.getD j 0 := by
  simp [List.getD_eq_getElem?_getD, List.getElem?_append_left h]
theorem getD_one {a : List Int} {z : Int} : (a ++ [z]).getD a.length 0 = z := by
  simp [List.getD_eq_getElem?_getD]
theorem getD_take {a : List Int} {n j : Nat} (h : j < n) : (a.take n).getD j 0 = a.getD j 0 := by
  simp [List.getD_eq_getElem?_getD, List.getElem?_take_of_lt h]
theorem getD_set_eq {a : List Int} {n : Nat} {z : Int} (h : n < a.length) : (a.set n z).getD n 0 = z := by
  simp [List.getD_eq_getElem?_getD, List.getElem?_set, h]
theorem getD_set_ne {a : List Int} {n j : Nat} {z : Int} (h : n ≠ j) : (a.set n z).getD j 0 = a.getD j 0 := by
  simp [List.getD_eq_getElem?_getD, List.getElem?_set, h]

theorem pu_get : ∀ (d : Nat) (x : Int), 0 ≤ x → x < 128 ^ (d + 1) → ∀ j, j < (pu d x).length → (128 ≤ (pu d x).getD j 0 ↔ j + 1 < (pu d x).length)
  | 0, x, h0, h1, j, hj => by
    simp only [pu] at hj ⊢
    simp only [List.length_cons, List.length_nil] at hj ⊢
    obtain rfl : j = 0 := by omega
    simp only [List.getD_cons_zero]
    omega
  | d + 1, x, h0, h1, j, hj => by
    simp only [pu] at hj ⊢
    by_cases h : x ≥ 128
    · rw [if_pos h] at hj ⊢
      rw [Int.pow_succ] at h1
      have ih := pu_get d (x / 128) (by omega) (by omega)
      have hl := pu_length d (x / 128)
      cases j with
      | zero => simp only [List.getD_cons_zero, List.length_cons]; omega
      | succ j =>
        simp only [List.getD_cons_succ, List.length_cons] at hj ⊢
        have := ih j (by omega)
        omega
    · rw [if_neg h] at hj ⊢
      simp only [List.length_cons, List.length_nil] at hj ⊢
      obtain rfl : j = 0 := by omega
      simp only [List.getD_cons_zero]
      omega
theorem ps_get : ∀ (d : Nat) (x : Int), ∀ j, j < (ps d x).length → (128 ≤ (ps d x).getD j 0 ↔ j + 1 < (ps d x).length)
  | 0, x, j, hj => by
    simp only [ps] at hj ⊢
    simp only [List.length_cons, List.length_nil] at hj ⊢
    obtain rfl : j = 0 := by omega
    simp only [List.getD_cons_zero]
    omega
  | d + 1, x, j, hj => by
    simp only [ps] at hj ⊢
    by_cases h : x < -64 ∨ 64 ≤ x
    · rw [if_pos h] at hj ⊢
      have ih := ps_get d (x / 128)
      have hl := ps_length d (x / 128)
      cases j with
      | zero => simp only [List.getD_cons_zero, List.length_cons]; omega
      | succ j =>
        simp only [List.getD_cons_succ, List.length_cons] at hj ⊢
        have := ih j (by omega)
        omega
    · rw [if_neg h] at hj ⊢
      simp only [List.length_cons, List.length_nil] at hj ⊢
      obtain rfl : j = 0 := by omega
      simp only [List.getD_cons_zero]
      omega
theorem pu_bytes : ∀ (d : Nat) (x : Int), ∀ y ∈ pu d x, 0 ≤ y ∧ y ≤ 255
  | 0, x, y, h => by
    simp only [pu, List.mem_singleton] at h
    omega
  | d + 1, x, y, h => by
    simp only [pu] at h
    split at h
    · rcases List.mem_cons.1 h with rfl | h
      · omega
      · exact pu_bytes d _ y h
    · simp only [List.mem_singleton] at h
      omega
theorem ps_bytes : ∀ (d : Nat) (x : Int), ∀ y ∈ ps d x, 0 ≤ y ∧ y ≤ 255
  | 0, x, y, h => by
    simp only [ps, List.mem_singleton] at h
    omega
  | d + 1, x, y, h => by
    simp only [ps] at h
    split at h
    · rcases List.mem_cons.1 h with rfl | h
      · omega
      · exact ps_bytes d _ y h
    · simp only [List.mem_singleton] at h
      omega

theorem val_cons (c : Int) (t : List Int) : ∀ n, val (c :: t) (n + 1) = c % 128 + 128 * val t n
  | 0 => by simp [val]
  | n + 1 => by
    have h := val_cons c t n
    show val (c :: t) (n + 1) + ((c :: t).getD (n + 1) 0 % 128) * 128 ^ (n + 1) = c % 128 + 128 * (val t n + (t.getD n 0 % 128) * 128 ^ n)
    rw [h, List.getD_cons_succ, Int.pow_succ, ← Int.mul_assoc, Int.mul_comm _ (128 : Int)]
    generalize t.getD n 0 % 128 * 128 ^ n = q
    omega
theorem pu_val : ∀ (d : Nat) (x : Int), 0 ≤ x → x < 128 ^ (d + 1) → val (pu d x) (pu d x).length = x
  | 0, x, h0, h1 => by
    show val [x % 256] (0 + 1) = x
    rw [val_cons]
    simp only [val]
    omega
  | d + 1, x, h0, h1 => by
    simp only [pu]
    by_cases h : x ≥ 128
    · rw [if_pos h, List.length_cons, val_cons, pu_val d (x / 128) (by omega) (by rw [Int.pow_succ] at h1; omega)]
      omega
    · rw [if_neg h]
      show val [x % 256] (0 + 1) = x
      rw [val_cons]
      simp only [val]
      omega
theorem sval_cons (c : Int) (t : List Int) (n : Nat) (h : 1 ≤ n) : sval (c :: t) (n + 1) = c % 128 + 128 * sval t n := by
  unfold sval
  rw [val_cons, show n + 1 - 1 = (n - 1) + 1 by omega, List.getD_cons_succ]
  split
  · omega
  · rw [Int.pow_succ]; omega
theorem ps_val : ∀ (d : Nat) (x : Int), -(64 * 128 ^ d) ≤ x → x < 64 * 128 ^ d → sval (ps d x) (ps d x).length = x
  | 0, x, h0, h1 => by
    show sval [x % 128] (0 + 1) = x
    unfold sval
    rw [val_cons]
    simp only [val, List.getD_cons_zero, Nat.zero_add, Nat.sub_self, Int.pow_succ, Int.pow_zero]
    split <;> omega
  | d + 1, x, h0, h1 => by
    have hl := ps_length d (x / 128)
    simp only [ps]
    by_cases h : x < -64 ∨ 64 ≤ x
    · rw [if_pos h, List.length_cons, sval_cons _ _ _ hl.1, ps_val d (x / 128) (by rw [Int.pow_succ] at h0; omega) (by rw [Int.pow_succ] at h1; omega)]
      omega
    · rw [if_neg h]
      show sval [x % 128] (0 + 1) = x
      unfold sval
      rw [val_cons]
      simp only [val, List.getD_cons_zero, Nat.zero_add, Nat.sub_self, Int.pow_succ, Int.pow_zero]
      split <;> omega

/-- Groups that go on up to the last. -/
structure Grp (E : List Int) : Prop where
  by_ : ∀ y ∈ E, 0 ≤ y ∧ y ≤ 255
  lo : 1 ≤ E.length
  hi : E.length ≤ 10
  go : ∀ j, j < E.length → (128 ≤ E.getD j 0 ↔ j + 1 < E.length)
theorem bytes_of {E : List Int} (hl : E.length < 140737488355328) (h : ∀ y ∈ E, 0 ≤ y ∧ y ≤ 255) : Bytes E := by
  refine ⟨hl, fun i => ?_⟩
  rcases Nat.lt_or_ge i E.length with hi | hi
  · rw [List.getD_eq_getElem?_getD, List.getElem?_eq_getElem hi]
    exact h _ (List.getElem_mem hi)
  · rw [List.getD_eq_getElem?_getD, List.getElem?_eq_none hi]
    simp
theorem grp_pu (x : Int) (h0 : 0 ≤ x) (h1 : x ≤ 18446744073709551615) : Grp (pu 9 x) :=
  ⟨pu_bytes 9 x, (pu_length 9 x).1, (pu_length 9 x).2, pu_get 9 x h0 (by rw [show (128 : Int) ^ (9 + 1) = 1180591620717411303424 from by decide]; omega)⟩
theorem grp_ps (x : Int) : Grp (ps 9 x) := ⟨ps_bytes 9 x, (ps_length 9 x).1, (ps_length 9 x).2, ps_get 9 x⟩
theorem grp_last {E : List Int} (h : Grp E) : 0 ≤ E.getD (E.length - 1) 0 ∧ E.getD (E.length - 1) 0 < 128 := by
  have h1 := h.lo
  have h2 := h.go (E.length - 1) (by omega)
  have h3 := (bytes_of (E := E) (by have := h.hi; omega) h.by_).2 (E.length - 1)
  omega
theorem grp_scan {E : List Int} (h : Grp E) (r : List Int) : scan (E ++ r) 10 0 = E.length := by
  have h1 := h.lo
  have h2 := h.hi
  refine scan_is _ _ (by simp) ?_ 10 0 (by omega) (by omega) fun j _ hj => ?_
  · rw [getD_app (by omega)]
    exact (grp_last h).2
  · rw [getD_app (by omega)]
    have := h.go j (by omega)
    omega
theorem val_app {E : List Int} (r : List Int) (n : Nat) (h : n ≤ E.length) : val (E ++ r) n = val E n := val_congr _ _ _ fun i hi => by rw [getD_app (by omega)]
theorem readU_grp {E : List Int} (h : Grp E) (r : List Int) {v : Int} (hv : val E E.length = v) (h1 : v ≤ 18446744073709551615) : outU (readU (E ++ r) 64) = (v, (E.length : Int), 0) := by
  unfold readU ruint
  have m : most 64 = 10 := by decide
  have p : (2 : Int) ^ (64 : Int).toNat = 18446744073709551616 := by decide
  have hl := h.lo
  rw [if_pos (by omega), m, grp_scan h r]
  simp only
  rw [val_app r _ (Nat.le_refl _), hv, p, if_neg (by omega)]
  rfl
theorem readS_grp {E : List Int} (h : Grp E) (r : List Int) {v : Int} (hv : sval E E.length = v) (h0 : -9223372036854775808 ≤ v) (h1 : v ≤ 9223372036854775807) : outS (readS (E ++ r) 64) = (v, (E.length : Int), 0) := by
  have m : most 64 = 10 := by decide
  have hl := h.lo
  have e : sval (E ++ r) E.length = v := by
    unfold sval
    rw [val_app r _ (Nat.le_refl _), getD_app (by omega)]
    exact hv
  rw [outS_of (b := E ++ r) (bits := 64) (n := E.length) (by omega) (by rw [m]; exact grp_scan h r) (by omega), e, if_neg]
  rw [range64]
  omega
theorem cut_scan {E : List Int} (h : Grp E) : scan (E.take (E.length - 1)) 10 0 = 0 := by
  refine scan_none _ 10 0 fun j _ _ hj => ?_
  have hl := h.lo
  rw [List.length_take] at hj
  rw [getD_take (by omega)]
  have := h.go j (by omega)
  omega
theorem readU_cut {E : List Int} (h : Grp E) : outU (readU (E.take (E.length - 1)) 64) = (0, 0, 100) := by
  unfold readU ruint
  have m : most 64 = 10 := by decide
  rw [if_pos (by omega), m, cut_scan h]
  rfl
theorem readS_cut {E : List Int} (h : Grp E) : outS (readS (E.take (E.length - 1)) 64) = (0, 0, 100) := by
  unfold readS rsint
  have m : most 64 = 10 := by decide
  rw [if_pos (by omega), m, cut_scan h]
  rfl
/-- One group more. -/
def more (E : List Int) : List Int := E.set (E.length - 1) (E.getD (E.length - 1) 0 % 128 + 128)
theorem more_length (E : List Int) : (more E).length = E.length := by simp [more]
theorem more_get {E : List Int} (j : Nat) (h : j < E.length) : (more E).getD j 0 % 128 = E.getD j 0 % 128 := by
  unfold more
  by_cases e : E.length - 1 = j
  · rw [e, getD_set_eq h]; omega
  · rw [getD_set_ne e]
theorem grp_more {E : List Int} (h : Grp E) (h9 : E.length < 10) (z : Int) (hz : 0 ≤ z) (hz2 : z < 128) : Grp (more E ++ [z]) := by
  have hl := h.lo
  have hb := bytes_of (E := E) (by omega) h.by_
  refine ⟨fun y hy => ?_, by simp, by simp [more_length]; omega, fun j hj => ?_⟩
  · rcases List.mem_append.1 hy with hy | hy
    · unfold more at hy
      rcases List.mem_or_eq_of_mem_set hy with hy | rfl
      · exact h.by_ y hy
      · omega
    · rw [List.mem_singleton] at hy
      omega
  · rw [List.length_append, more_length] at hj ⊢
    simp only [List.length_cons, List.length_nil] at hj ⊢
    by_cases e : j = E.length
    · have := getD_one (a := more E) (z := z)
      rw [more_length] at this
      rw [e, this]
      omega
    · rw [getD_app (by rw [more_length]; omega)]
      unfold more
      by_cases e2 : E.length - 1 = j
      · rw [e2, getD_set_eq (by omega)]; omega
      · rw [getD_set_ne e2]
        have := h.go j (by omega)
        omega
theorem val_more {E : List Int} (z : Int) (hz : 0 ≤ z) (hz2 : z < 128) : val (more E ++ [z]) (E.length + 1) = val E E.length + z * 128 ^ E.length := by
  have := getD_one (a := more E) (z := z)
  rw [more_length] at this
  show val (more E ++ [z]) E.length + (more E ++ [z]).getD E.length 0 % 128 * 128 ^ E.length = _
  rw [this, val_app _ _ (by rw [more_length]; omega), val_congr (more E) E E.length (fun i hi => more_get i hi), Int.emod_eq_of_lt hz hz2]
theorem sval_more {E : List Int} (h : Grp E) : sval (more E ++ [if sval E E.length < 0 then 127 else 0]) (E.length + 1) = sval E E.length := by
  have hl := h.lo
  have hla := grp_last h
  have hb := val_bound E E.length
  have hs := sval_lt E E.length hl hla.2 hla.1
  have hg := getD_one (a := more E) (z := if sval E E.length < 0 then 127 else 0)
  rw [more_length] at hg
  have hp : (0 : Int) < 128 ^ E.length := Int.pow_pos (by decide)
  unfold sval
  rw [show E.length + 1 - 1 = E.length by omega]
  unfold sval at hg
  rw [hg, val_more _ (by split <;> omega) (by split <;> omega)]
  by_cases h64 : E.getD (E.length - 1) 0 < 64
  · simp only [h64, if_true]
    rw [if_neg (by omega)]
    simp
  · simp only [h64, if_false]
    rw [if_pos (by omega)]
    rw [if_neg (by omega), Int.pow_succ]
    omega

theorem copy_l0 (a : List Int) (hm : a.length < 140737488355328) : ∀ (d j : Nat), j + d = a.length → ∀ k, d < k → gangwayref0_CopyBytes.l0 k a (a.take j) (j : Int) = some a := by
  intro d
  induction d with
  | zero =>
    intro j hj k hk
    obtain ⟨k, rfl⟩ : ∃ m, k = m + 1 := ⟨k - 1, by omega⟩
    simp only [gangwayref0_CopyBytes.l0]
    rw [if_neg (by omega), List.take_of_length_le (by omega)]
  | succ d ih =>
    intro j hj k hk
    obtain ⟨k, rfl⟩ : ∃ m, k = m + 1 := ⟨k - 1, by omega⟩
    simp only [gangwayref0_CopyBytes.l0]
    rw [if_pos (by omega), if_pos (by omega), if_pos (by rw [List.length_take]; omega), rd_nat, w64 (by omega) (by omega)]
    have e : a.take j ++ [a.getD j 0] = a.take (j + 1) := by
      rw [List.take_succ_eq_append_getElem (by omega), List.getD_eq_getElem?_getD, List.getElem?_eq_getElem (by omega)]
      rfl
    rw [e]
    exact ih (j + 1) (by omega) k (by omega)
theorem copy_ev (a : List Int) (hm : a.length < 140737488355328) (k : Nat) (hk : a.length < k) : gangwayref0_CopyBytes.f k a = some a := by
  have := copy_l0 a hm a.length 0 (by omega) k hk
  rwa [List.take_zero] at this

end Go.Proofs.Ytgmlnigelbplnaa.Q
