/- What the pieces' calls, and the page's, come to. -/
import Derived.Test.YtdoaininjfbemaaPAllx5
import Derived.Test.YtdoaininjfbemaaPAllx4
import Derived.Test.YtdoaininjfbemaaPAllx7
import Derived.Test.YtdoaininjfbemaaPAllx8
import Derived.Test.YtdoaininjfbemaaPAllx3
import Derived.Test.YtdoaininjfbemaaPAllx6
import Derived.Test.YtdoaininjfbemaaPAllx9
import Derived.Test.YtdoaininjfbemaaPAllx2
import Derived.Test.YtdoaininjfbemaaQMemI
import Derived.Test.YtdoaininjfbemaaEvs
namespace Go.Proofs.Ytdoaininjfbemaa.Q
open Go.RowKit Go.Proofs.Ytdoaininjfbemaa.PAll Go.Proofs.YtdoaininjfbemaaW.PrintWords Go.Proofs.YtdoaininjfbemaaW.PrintLast Go.Proofs.YtdoaininjfbemaaW.PrintMore Go.Proofs.YtdoaininjfbemaaU
set_option linter.unusedVariables false
set_option linter.unusedSectionVars false

theorem eqb_l0 (a b : List Int) (hl : a.length = b.length) (hm : a.length < 140737488355328) : ∀ (d j : Nat), j + d = a.length → ∀ k, d < k → gangwayref0_EqBytes.l0 k a b (j : Int) = some (decide (a.drop j = b.drop j)) := by
  intro d
  induction d with
  | zero =>
    intro j hj k hk
    obtain ⟨k, rfl⟩ : ∃ m, k = m + 1 := ⟨k - 1, by omega⟩
    simp only [gangwayref0_EqBytes.l0]
    rw [if_neg (by omega), List.drop_of_length_le (by omega), List.drop_of_length_le (by omega)]
    rfl
  | succ d ih =>
    intro j hj k hk
    obtain ⟨k, rfl⟩ : ∃ m, k = m + 1 := ⟨k - 1, by omega⟩
    have e3 : wrap64 ((j : Int) + 1) = ((j + 1 : Nat) : Int) := by rw [w64 (by omega) (by omega)]; omega
    simp only [gangwayref0_EqBytes.l0]
    rw [if_pos (by omega), if_pos (by omega), if_pos (by omega), rd_nat, rd_nat, e3]
    have hs := beq_cons_take (a := a) (b := b) (i := j) (by omega) (by omega)
    by_cases h : a.getD j 0 = b.getD j 0
    · rw [if_pos h, ih (j + 1) (by omega) k (by omega)]
      simp only [hs, h, true_and]
    · rw [if_neg h]
      simp only [hs, h, false_and, decide_false]

theorem eqb_ev (a b : List Int) (hm : a.length < 140737488355328) (k : Nat) (hk : a.length < k) : gangwayref0_EqBytes.f k a b = some (decide (a = b)) := by
  unfold gangwayref0_EqBytes.f
  by_cases h : a.length = b.length
  · rw [if_pos (by omega)]
    exact eqb_l0 a b h hm a.length 0 (by omega) k (by omega)
  · rw [if_neg (by omega)]
    have : a ≠ b := fun e => h (by rw [e])
    simp [this]

theorem rhas_eq {l : List Int} (s a n : Int) (hl : l.length ≤ 9223372036854775807) : gangwayref9_Mem_Has.f l s a n = some (decide (0 ≤ a ∧ 0 ≤ n ∧ a + n ≤ (l.length : Int)), l, s) := by
  unfold gangwayref9_Mem_Has.f
  by_cases h1 : a ≥ 0
  · rw [if_pos h1]
    by_cases h2 : n ≥ 0
    · rw [if_pos h2]
      by_cases h3 : n ≤ (l.length : Int)
      · rw [if_pos h3, w64 (by omega) (by omega)]
        congr 2
        simp only [decide_eq_decide]
        omega
      · rw [if_neg h3]
        congr 2
        simp
        omega
    · rw [if_neg h2]
      congr 2
      simp
      omega
  · rw [if_neg h1]
    congr 2
    simp
    omega
theorem mhas_eq {l : List Int} (s a n : Int) (hl : l.length ≤ 9223372036854775807) : mem_Memory_Has.f l s a n = some (decide (0 ≤ a ∧ 0 ≤ n ∧ a + n ≤ (l.length : Int)), l, s) := by
  unfold mem_Memory_Has.f
  rw [there_eq s a n hl]
  rfl
theorem or64c {x y : Int} (h0 : 0 ≤ x) (h1 : x < 256) (hy : 0 ≤ y) (h2 : y * 256 < 18446744073709551616) : Go.bits .or .u64 (y * 256) x = x + y * 256 := by
  have e : Go.bits .or .u64 (y * 256) x = Go.bits .or .u64 x (y * 256) := by rw [bits_or64, bits_or64, Nat.or_comm]
  rw [e, or64 (p := 8) (by omega) h0 (by have : (2 : Int) ^ 8 = 256 := by decide
                                         omega) (by omega) h2 (by have : (2 : Int) ^ 8 = 256 := by decide
                                                                  rw [this]; exact Int.mul_emod_left _ _)]
theorem num_cons_drop (l : List Int) (j : Nat) (h : j < l.length) : num (l.drop j) = l.getD j 0 + 256 * num (l.drop (j + 1)) := by
  rw [List.drop_eq_getElem_cons h, num, List.getD_eq_getElem?_getD, List.getElem?_eq_getElem h]
  rfl
theorem copy_l0 (a : List Int) (hm : a.length < 140737488355328) : ∀ (d j : Nat), j + d = a.length → ∀ k, d < k → gangwayref0_CopyBytes.l0 k a (a.take j) (j : Int) = some a := by
  intro d
  induction d with
  | zero =>
    intro j hj k hk
    obtain ⟨k, rfl⟩ : ∃ m, k = m + 1 := ⟨k - 1, by omega⟩
    simp only [gangwayref0_CopyBytes.l0]
    rw [if_neg (by omega), List.take_of_length_le (by omega)]
  | succ d ih =>
    intro j hj k hk
    obtain ⟨k, rfl⟩ : ∃ m, k = m + 1 := ⟨k - 1, by omega⟩
    have e3 : wrap64 ((j : Int) + 1) = ((j + 1 : Nat) : Int) := by rw [w64 (by omega) (by omega)]; omega
    have et : a.take j ++ [a.getD j 0] = a.take (j + 1) := by
      rw [List.take_succ_eq_append_getElem (by omega), List.getD_eq_getElem?_getD, List.getElem?_eq_getElem (by omega)]
      rfl
    simp only [gangwayref0_CopyBytes.l0]
    rw [if_pos (by omega), if_pos (by omega), if_pos (by rw [List.length_take]; omega), rd_nat, e3, et]
    exact ih (j + 1) (by omega) k (by omega)
theorem copy_ev (a : List Int) (hm : a.length < 140737488355328) : Ev (fun k => gangwayref0_CopyBytes.f k a) a :=
  Ev.big (a.length + 1) fun k hk => copy_l0 a hm a.length 0 (by omega) k (by omega)
/-- A stretch of bytes. -/
def seg (M : List Int) (a n : Nat) : List Int := (M.take (a + n)).drop a
theorem seg_get (M : List Int) (a n i : Nat) : (seg M a n)[i]? = if i < n then M[a + i]? else none := by
  unfold seg
  rw [List.getElem?_drop, List.getElem?_take]
  by_cases h : i < n
  · rw [if_pos (by omega), if_pos h]
  · rw [if_neg (by omega), if_neg h]
theorem splice_get (M p : List Int) (a i : Nat) (h : a + p.length ≤ M.length) : (splice M a p)[i]? = if i < a then M[i]? else if i < a + p.length then p[i - a]? else M[i]? := by
  unfold splice
  have h1 : (M.take a).length = a := by rw [List.length_take]; omega
  have h2 : (M.take a ++ p).length = a + p.length := by rw [List.length_append, h1]
  by_cases hi : i < a
  · rw [if_pos hi, List.getElem?_append_left (by omega), List.getElem?_append_left (by omega), List.getElem?_take, if_pos hi]
  · rw [if_neg hi]
    by_cases hj : i < a + p.length
    · rw [if_pos hj, List.getElem?_append_left (by omega), List.getElem?_append_right (by omega), h1]
    · rw [if_neg hj, List.getElem?_append_right (by omega), h2, List.getElem?_drop]
      congr 1
      omega
theorem seg_same (M p : List Int) (a : Nat) (h : a + p.length ≤ M.length) : seg (splice M a p) a p.length = p := by
  apply List.ext_getElem?
  intro i
  rw [seg_get]
  by_cases hi : i < p.length
  · rw [if_pos hi, splice_get M p a _ h, if_neg (by omega), if_pos (by omega)]
    congr 1
    omega
  · rw [if_neg hi, List.getElem?_eq_none (by omega)]
theorem seg_other (M p : List Int) (a b n : Nat) (h : a + p.length ≤ M.length) (hd : b + n ≤ a ∨ a + p.length ≤ b) : seg (splice M a p) b n = seg M b n := by
  apply List.ext_getElem?
  intro i
  rw [seg_get, seg_get]
  by_cases hi : i < n
  · rw [if_pos hi, if_pos hi, splice_get M p a _ h]
    by_cases h1 : b + i < a
    · rw [if_pos h1]
    · rw [if_neg h1, if_neg (by omega)]
  · rw [if_neg hi, if_neg hi]


theorem seg_len {M : List Int} {a n : Nat} (h : a + n ≤ M.length) : (seg M a n).length = n := by
  unfold seg
  rw [List.length_drop, List.length_take]
  omega
theorem Byt.seg {M : List Int} (h : Byt M) (a n : Nat) : Byt (seg M a n) := (h.take _).drop _
theorem num_lt4 (l : List Int) (hB : Byt l) (hl : l.length ≤ 4) : 0 ≤ num l ∧ num l < 4294967296 := by
  have h := num_bd l hB
  have h3 : l.length = 0 ∨ l.length = 1 ∨ l.length = 2 ∨ l.length = 3 ∨ l.length = 4 := by omega
  have e0 : (2 : Int) ^ (8 * 0) = 1 := by decide
  have e1 : (2 : Int) ^ (8 * 1) = 256 := by decide
  have e2 : (2 : Int) ^ (8 * 2) = 65536 := by decide
  have e3 : (2 : Int) ^ (8 * 3) = 16777216 := by decide
  have e4 : (2 : Int) ^ (8 * 4) = 4294967296 := by decide
  rcases h3 with h3 | h3 | h3 | h3 | h3 <;> rw [h3] at h <;> omega
theorem number_l0 (l : List Int) (hB : Byt l) (hl : l.length = 4) : ∀ (j : Nat), j ≤ 4 → ∀ k, j < k → gangwayref20_Number.l0 k l (num (l.drop j)) ((j : Int) - 1) = some (num l) := by
  intro j
  induction j with
  | zero =>
    intro _ k hk
    obtain ⟨k, rfl⟩ : ∃ m, k = m + 1 := ⟨k - 1, by omega⟩
    simp only [gangwayref20_Number.l0]
    rw [if_neg (by omega), List.drop_zero]
  | succ j ih =>
    intro hj k hk
    obtain ⟨k, rfl⟩ : ∃ m, k = m + 1 := ⟨k - 1, by omega⟩
    have hb := hB.getD j
    have hn := num_lt4 (l.drop (j + 1)) (hB.drop _) (by rw [List.length_drop]; omega)
    have e := num_cons_drop l j (by omega)
    simp only [gangwayref20_Number.l0]
    rw [show (((j + 1 : Nat) : Int) - 1) = (j : Int) by omega, if_pos (by omega), if_pos (by omega), if_pos (by omega), rd_nat]
    generalize l.getD j 0 = c at *
    generalize num (l.drop (j + 1)) = v at *
    rw [wu64 (v * 256), Int.emod_eq_of_lt (by omega) (by omega), wu64 c, Int.emod_eq_of_lt (by omega) (by omega), or64c hb.1 hb.2 hn.1 (by omega), w64 (by omega) (by omega), show c + v * 256 = c + 256 * v by omega, ← e]
    exact ih (by omega) k (by omega)
theorem number_ok (l : List Int) (hB : Byt l) (hl : l.length = 4) (k : Nat) (hk : 4 < k) : gangwayref20_Number.f k l = some (num l) := by
  have e := number_l0 l hB hl 4 (by omega) k hk
  unfold gangwayref20_Number.f
  rw [List.drop_of_length_le (by omega)] at e
  rw [w64 (by omega) (by omega), hl]
  exact e
/-! ### Pieces -/
abbrev qm := iov_all.q 65536
theorem qm_iff (x : S50) : qm x = true ↔ (0 ≤ x.f0 ∧ 0 ≤ x.f1 ∧ x.f0 + x.f1 ≤ 65536) := by
  unfold qm iov_all.q
  rw [decide_eq_true_iff]
  rfl
def sum : List S50 → Int
  | [] => 0
  | x :: r => x.f1 + sum r
theorem sum_append : ∀ (a b : List S50), sum (a ++ b) = sum a + sum b
  | [], b => by simp [sum]
  | x :: a, b => by rw [List.cons_append, sum, sum, sum_append a b]; omega
theorem sum_bd : ∀ (P : List S50), P.all qm = true → 0 ≤ sum P ∧ sum P ≤ 65536 * (P.length : Int)
  | [], _ => by simp [sum]
  | x :: r, h => by
    rw [List.all_cons, Bool.and_eq_true] at h
    have h1 := (qm_iff x).1 h.1
    have h2 := sum_bd r h.2
    rw [sum, List.length_cons]
    omega
theorem rdp (P : List S50) (i : Nat) (h : i < P.length) : rd_T50 P (i : Int) = P[i] := by
  unfold rd_T50
  rw [Int.toNat_natCast, List.getD_eq_getElem?_getD, List.getElem?_eq_getElem h]
  rfl
theorem all_at {P : List S50} (h : P.all qm = true) (i : Nat) (hi : i < P.length) : 0 ≤ P[i].f0 ∧ 0 ≤ P[i].f1 ∧ P[i].f0 + P[i].f1 ≤ 65536 := (qm_iff _).1 (List.all_eq_true.1 h _ (List.getElem_mem hi))
/-- How many bytes pieces have, or none. -/
def tot : Int → List S50 → Option Int
  | n, [] => some n
  | n, x :: r => if x.f1 < 0 then none else if x.f1 > 1099511627776 - n then none else tot (n + x.f1) r
theorem tot_ok : ∀ (P : List S50) (n : Int), P.all qm = true → 0 ≤ n → n + 65536 * (P.length : Int) ≤ 1099511627776 → tot n P = some (n + sum P)
  | [], n, _, _, _ => by simp [tot, sum]
  | x :: r, n, h, h0, h1 => by
    rw [List.all_cons, Bool.and_eq_true] at h
    have hx := (qm_iff x).1 h.1
    rw [List.length_cons] at h1
    rw [tot, if_neg (by omega), if_neg (by omega), tot_ok r _ h.2 (by omega) (by omega), sum, Int.add_assoc]
theorem total_l0 (P : List S50) (hP : P.length < 8796093022208) : ∀ (d i : Nat), i + d = P.length → ∀ n : Int, 0 ≤ n → n ≤ 1099511627776 → Ev (fun k => iov_Total.l0 k n P (P.length : Int) (i : Int)) (match tot n (P.drop i) with | none => (0, 100) | some t => (t, 0)) := by
  intro d
  induction d with
  | zero =>
    intro i hi n h0 h1
    rw [List.drop_of_length_le (by omega), tot]
    exact Ev.step (fun k => iov_Total.l0.eq_2 _ _ _ _ _) (Ev.ifn (by omega) (Ev.cst rfl))
  | succ d ih =>
    intro i hi n h0 h1
    have hil : i < P.length := by omega
    rw [List.drop_eq_getElem_cons hil, tot]
    refine Ev.step (fun k => iov_Total.l0.eq_2 _ _ _ _ _) (Ev.ifp (by omega) (Ev.ifp (by omega) (Ev.ifp (by omega) ?_)))
    rw [rdp P i hil]
    by_cases h2 : P[i].f1 < 0
    · rw [if_pos h2]
      exact Ev.ifp h2 (Ev.cst rfl)
    · rw [if_neg h2]
      refine Ev.ifn h2 ?_
      rw [w64 (by omega) (by omega)]
      by_cases h3 : P[i].f1 > 1099511627776 - n
      · rw [if_pos h3]
        exact Ev.ifp h3 (Ev.cst rfl)
      · rw [if_neg h3]
        refine Ev.ifn h3 ?_
        rw [w64 (by omega) (by omega), w64 (by omega) (by omega), show (i : Int) + 1 = ((i + 1 : Nat) : Int) by omega]
        exact ih (i + 1) (by omega) _ (by omega) (by omega)
theorem total_ev (P : List S50) (hP : P.length < 8796093022208) : Ev (fun k => iov_Total.f k P) (match tot 0 P with | none => (0, 100) | some t => (t, 0)) := by
  have e := total_l0 P hP P.length 0 (by omega) 0 (by omega) (by omega)
  rw [List.drop_zero] at e
  refine Ev.congr (fun k => by rw [iov_Total.f]) ?_
  exact e
/-- The piece that lies at a place. -/
def pc (M : List Int) (a i : Nat) : S50 := ⟨num (seg M (a + 8 * i) 4), num (seg M (a + 8 * i + 4) 4)⟩
def pcs (M : List Int) (a n : Nat) : List S50 := (List.range n).map (pc M a)
theorem pcs_succ (M : List Int) (a n : Nat) : pcs M a (n + 1) = pcs M a n ++ [pc M a n] := by simp [pcs, List.range_succ]
theorem pcs_len (M : List Int) (a n : Nat) : (pcs M a n).length = n := by simp [pcs]
/-- What Pieces tells. -/
def told (M : List Int) (a n : Nat) : List S50 × Int := if (pcs M a n).all qm = true then (if sum (pcs M a n) > 1048576 then ([], 28) else (pcs M a n, 0)) else ([], 21)
section
variable (M : List Int) (hM : M.length = 65536) (hB : Byt M) (s : Int) (a n : Nat) (h : a + 8 * n ≤ 65536) (hn : n ≤ 64)
include hM hB
theorem word_ok (x : Nat) (hx : x + 4 ≤ 65536) (k : Nat) (hk : 8 < k) : iov_Pieces_1.f k (x : Int) M s = some (num (seg M x 4), M, s) := by
  have hf : Fm (x : Int) 0 4 := by unfold Fm mem_Memory_Load.form; omega
  have e := load_ok s hB hf (by omega) k hk
  have hs : sub M (x : Int) 0 4 = seg M x 4 := by
    simp only [sub, mem_Memory_Load.sub, seg]
    rw [show ((x : Int) + 0 + 4).toNat = x + 4 by omega, show ((x : Int) + 0).toNat = x by omega]
  have hl := num_lt4 (seg M x 4) (hB.seg _ _) (by rw [seg_len (by omega)]; omega)
  unfold iov_Pieces_1.f
  rw [e, hs, Option.bind_some]
  show some (wrap64 (num (seg M x 4)), M, s) = _
  rw [w64 (by omega) (by omega)]
include h hn
theorem code_l0 : ∀ (d i : Nat), i + d = n → Ev (fun k => iov_Pieces.l0 k (a : Int) (pcs M a i) (n : Int) (i : Int) M s) ((told M a n).1, (told M a n).2, M, s) := by
  intro d
  induction d with
  | zero =>
    intro i hi
    obtain rfl : i = n := by omega
    have hlen := pcs_len M a i
    refine Ev.step (fun k => iov_Pieces.l0.eq_2 _ _ _ _ _ _ _) (Ev.ifn (by omega) (Ev.val (v := (if (pcs M a i).all (iov_all.q M.length) = true then 0 else 21, M, s)) rfl ?_))
    rw [hM]
    unfold told
    by_cases ha : (pcs M a i).all qm = true
    · have hs := sum_bd _ ha
      rw [if_pos ha, if_pos ha]
      refine Ev.ifp rfl (Ev.bd (total_ev _ (by omega)) ?_)
      rw [tot_ok _ 0 ha (by omega) (by omega), Int.zero_add]
      by_cases h2 : sum (pcs M a i) > 1048576
      · rw [if_pos h2, if_pos h2]
        exact Ev.cst rfl
      · rw [if_neg h2, if_neg h2]
        exact Ev.cst rfl
    · rw [if_neg ha, if_neg ha]
      exact Ev.ifn (show ¬ ((21 : Int) = 0) by decide) (Ev.cst rfl)
  | succ d ih =>
    intro i hi
    have hlen := pcs_len M a i
    have e := ih (i + 1) (by omega)
    rw [pcs_succ] at e
    refine Ev.step (fun k => iov_Pieces.l0.eq_2 _ _ _ _ _ _ _) (Ev.ifp (by omega) ?_)
    rw [w64 (x := 8 * (i : Int)) (by omega) (by omega), w64 (x := (a : Int) + 8 * (i : Int)) (by omega) (by omega), w64 (x := (a : Int) + 8 * (i : Int) + 4) (by omega) (by omega), w64 (x := (i : Int) + 1) (by omega) (by omega), show (a : Int) + 8 * (i : Int) + 4 = ((a + 8 * i + 4 : Nat) : Int) by omega, show (a : Int) + 8 * (i : Int) = ((a + 8 * i : Nat) : Int) by omega, show (i : Int) + 1 = ((i + 1 : Nat) : Int) by omega]
    exact Ev.bd (Ev.big 9 fun k hk => word_ok M hM hB s (a + 8 * i) (by omega) k (by omega)) (Ev.bd (Ev.big 9 fun k hk => word_ok M hM hB s (a + 8 * i + 4) (by omega) k (by omega)) (Ev.ifp (by omega) e))
theorem seg_take (x : Nat) : (seg M x 8).take 4 = seg M x 4 := by
  unfold seg
  rw [List.take_drop, List.take_take]
  congr 2
  omega
theorem seg_drop (x : Nat) : (seg M x 8).drop 4 = seg M (x + 4) 4 := by
  unfold seg
  rw [List.drop_drop]
theorem ref_l0 : ∀ (d i : Nat), i + d = n → (pcs M a i).all qm = true → Ev (fun k => gangwayref20_Pieces.l0 k (a : Int) (n : Int) (pcs M a i) (sum (pcs M a i)) (i : Int) M s) ((told M a n).1, (told M a n).2, M, s) := by
  intro d
  induction d with
  | zero =>
    intro i hi ha
    obtain rfl : i = n := by omega
    unfold told
    rw [if_pos ha]
    refine Ev.step (fun k => gangwayref20_Pieces.l0.eq_2 _ _ _ _ _ _ _ _) (Ev.ifn (by omega) ?_)
    by_cases h2 : sum (pcs M a i) > 1048576
    · rw [if_pos h2, if_pos h2]
      exact Ev.cst rfl
    · rw [if_neg h2, if_neg h2]
      exact Ev.cst rfl
  | succ d ih =>
    intro i hi ha
    have hlen := pcs_len M a i
    have hs := sum_bd _ ha
    have s8 : (seg M (a + 8 * i) 8).length = 8 := seg_len (by omega)
    have hq1 := num_lt4 (seg M (a + 8 * i) 4) (hB.seg _ _) (by rw [seg_len (by omega)]; omega)
    have hq2 := num_lt4 (seg M (a + 8 * i + 4) 4) (hB.seg _ _) (by rw [seg_len (by omega)]; omega)
    refine Ev.step (fun k => gangwayref20_Pieces.l0.eq_2 _ _ _ _ _ _ _ _) (Ev.ifp (by omega) ?_)
    rw [w64 (x := 8 * (i : Int)) (by omega) (by omega), w64 (x := (a : Int) + 8 * (i : Int)) (by omega) (by omega), w64 (x := (a : Int) + 8 * (i : Int) + 8) (by omega) (by omega), w64 (x := (i : Int) + 1) (by omega) (by omega)]
    refine Ev.ifp (by omega) (Ev.ifp (by omega) (Ev.ifp (by omega) (Ev.val (v := seg M (a + 8 * i) 8) ?_ ?_)))
    · unfold seg
      rw [show ((a : Int) + 8 * (i : Int) + 8).toNat = a + 8 * i + 8 by omega, show ((a : Int) + 8 * (i : Int)).toNat = a + 8 * i by omega]
    · refine Ev.ifp (by omega) ?_
      rw [seg_take M hM hB a n h hn, seg_drop M hM hB a n h hn]
      refine Ev.bd (Ev.big 5 fun k hk => number_ok _ (hB.seg _ _) (seg_len (by omega)) k (by omega)) (Ev.bd (Ev.big 5 fun k hk => number_ok _ (hB.seg _ _) (seg_len (by omega)) k (by omega)) ?_)
      rw [w64 (x := num (seg M (a + 8 * i) 4)) (by omega) (by omega), w64 (x := num (seg M (a + 8 * i + 4) 4)) (by omega) (by omega)]
      refine Ev.val (rhas_eq (l := M) s _ _ (by omega)) ?_
      by_cases hq : qm (pc M a i) = true
      · have hq3 := (qm_iff _).1 hq
        have ha2 : (pcs M a (i + 1)).all qm = true := by rw [pcs_succ, List.all_append, ha]; simp [hq]
        have e := ih (i + 1) (by omega) ha2
        have hs2 : sum (pcs M a (i + 1)) = sum (pcs M a i) + num (seg M (a + 8 * i + 4) 4) := by rw [pcs_succ, sum_append]; simp [sum, pc]
        rw [hs2, pcs_succ] at e
        have hq4 : 0 ≤ num (seg M (a + 8 * i) 4) ∧ 0 ≤ num (seg M (a + 8 * i + 4) 4) ∧ num (seg M (a + 8 * i) 4) + num (seg M (a + 8 * i + 4) 4) ≤ 65536 := hq3
        refine Ev.ifp (decide_eq_true (by omega)) (Ev.ifp (by omega) ?_)
        rw [w64 (x := sum (pcs M a i) + _) (by omega) (by omega), show (i : Int) + 1 = ((i + 1 : Nat) : Int) by omega]
        exact e
      · have hq4 : ¬ (0 ≤ num (seg M (a + 8 * i) 4) ∧ 0 ≤ num (seg M (a + 8 * i + 4) 4) ∧ num (seg M (a + 8 * i) 4) + num (seg M (a + 8 * i + 4) 4) ≤ 65536) := fun h3 => hq ((qm_iff _).2 h3)
        have hall : (pcs M a n).all qm = false := by
          rw [List.all_eq_false]
          exact ⟨pc M a i, by unfold pcs; exact List.mem_map.2 ⟨i, List.mem_range.2 (by omega), rfl⟩, hq⟩
        unfold told
        rw [hall, if_neg Bool.false_ne_true]
        exact Ev.ifn (by rw [decide_eq_false (by omega)]; exact Bool.false_ne_true) (Ev.cst rfl)
end
theorem pieces_ev (M : List Int) (hM : M.length = 65536) (hB : Byt M) (s c a n : Int) (hn : -9223372036854775808 ≤ n ∧ n ≤ 9223372036854775807) :
    ∃ r : List S50 × Int, r.1.length ≤ 64 ∧ Ev (fun k => iov_Pieces.f k M s a n) (r.1, r.2, M, s) ∧ Ev (fun k => gangwayref20_Pieces.f k M c a n) (r.1, r.2, M, c) := by
  have bad : ∀ b : Bool, b = true → Ev (fun k => iov_Pieces.j0 k a n b M s) ([], 28, M, s) ∧ Ev (fun k => gangwayref20_Pieces.j0 k a n b M c) ([], 28, M, c) := by
    rintro b rfl
    exact ⟨Ev.step (fun k => iov_Pieces.j0.eq_2 _ _ _ _ _ _) (Ev.ifp rfl (Ev.cst rfl)), Ev.step (fun k => gangwayref20_Pieces.j0.eq_2 _ _ _ _ _ _) (Ev.ifp rfl (Ev.cst rfl))⟩
  by_cases h0 : n < 0
  · refine ⟨([], 28), Nat.zero_le _, Ev.congr (fun k => by rw [iov_Pieces.f]) ?_, Ev.congr (fun k => by rw [gangwayref20_Pieces.f]) ?_⟩
    · exact Ev.ifp h0 (bad true rfl).1
    · exact Ev.ifp h0 (bad true rfl).2
  · by_cases h1 : n > 64
    · refine ⟨([], 28), Nat.zero_le _, Ev.congr (fun k => by rw [iov_Pieces.f]) ?_, Ev.congr (fun k => by rw [gangwayref20_Pieces.f]) ?_⟩
      · exact Ev.ifn h0 (bad _ (decide_eq_true h1)).1
      · exact Ev.ifn h0 (bad _ (decide_eq_true h1)).2
    · have w8 : wrap64 (8 * n) = 8 * n := w64 (by omega) (by omega)
      by_cases h2 : 0 ≤ a ∧ 0 ≤ 8 * n ∧ a + 8 * n ≤ (M.length : Int)
      · obtain ⟨A, rfl⟩ : ∃ A : Nat, a = (A : Int) := ⟨a.toNat, by omega⟩
        obtain ⟨m, rfl⟩ : ∃ m : Nat, n = (m : Int) := ⟨n.toNat, by omega⟩
        refine ⟨told M A m, ?_, Ev.congr (fun k => by rw [iov_Pieces.f]) ?_, Ev.congr (fun k => by rw [gangwayref20_Pieces.f]) ?_⟩
        · have := pcs_len M A m
          unfold told
          split
          · split
            · exact Nat.zero_le _
            · show (pcs M A m).length ≤ 64
              omega
          · exact Nat.zero_le _
        · refine Ev.ifn h0 ?_
          rw [decide_eq_false h1]
          refine Ev.step (fun k => iov_Pieces.j0.eq_2 _ _ _ _ _ _) (Ev.ifn Bool.false_ne_true ?_)
          rw [w8]
          exact Ev.val (mhas_eq (l := M) s _ _ (by omega)) (Ev.ifp (decide_eq_true h2) (code_l0 M hM hB s A m (by omega) (by omega) m 0 (by omega)))
        · refine Ev.ifn h0 ?_
          rw [decide_eq_false h1]
          refine Ev.step (fun k => gangwayref20_Pieces.j0.eq_2 _ _ _ _ _ _) (Ev.ifn Bool.false_ne_true ?_)
          rw [w8]
          exact Ev.val (rhas_eq (l := M) c _ _ (by omega)) (Ev.ifp (decide_eq_true h2) (ref_l0 M hM hB c A m (by omega) (by omega) m 0 (by omega) rfl))
      · refine ⟨([], 21), Nat.zero_le _, Ev.congr (fun k => by rw [iov_Pieces.f]) ?_, Ev.congr (fun k => by rw [gangwayref20_Pieces.f]) ?_⟩
        · refine Ev.ifn h0 ?_
          rw [decide_eq_false h1]
          refine Ev.step (fun k => iov_Pieces.j0.eq_2 _ _ _ _ _ _) (Ev.ifn Bool.false_ne_true ?_)
          rw [w8]
          exact Ev.val (mhas_eq (l := M) s _ _ (by omega)) (Ev.ifn (by rw [decide_eq_false h2]; exact Bool.false_ne_true) (Ev.cst rfl))
        · refine Ev.ifn h0 ?_
          rw [decide_eq_false h1]
          refine Ev.step (fun k => gangwayref20_Pieces.j0.eq_2 _ _ _ _ _ _) (Ev.ifn Bool.false_ne_true ?_)
          rw [w8]
          exact Ev.val (rhas_eq (l := M) c _ _ (by omega)) (Ev.ifn (by rw [decide_eq_false h2]; exact Bool.false_ne_true) (Ev.cst rfl))
theorem eqp_ev (P : List S50) (hP : P.length < 8796093022208) : Ev (fun k => gangwayref0_EqPieces.f k P P) true := by
  have l0 : ∀ (d i : Nat), i + d = P.length → Ev (fun k => gangwayref0_EqPieces.l0 k P P (i : Int)) true := by
    intro d
    induction d with
    | zero =>
      intro i hi
      exact Ev.step (fun k => gangwayref0_EqPieces.l0.eq_2 _ _ _ _) (Ev.ifn (by omega) (Ev.cst rfl))
    | succ d ih =>
      intro i hi
      refine Ev.step (fun k => gangwayref0_EqPieces.l0.eq_2 _ _ _ _) (Ev.ifp (by omega) (Ev.ifp (by omega) (Ev.ifp (by omega) (Ev.ifn (by simp) ?_))))
      rw [w64 (by omega) (by omega), show (i : Int) + 1 = ((i + 1 : Nat) : Int) by omega]
      exact ih (i + 1) (by omega)
  refine Ev.congr (fun k => by rw [gangwayref0_EqPieces.f]) ?_
  exact Ev.ifp rfl (l0 P.length 0 (by omega))
theorem rhas_ev (M : List Int) (hM : M.length = 65536) (s : Int) (P : List S50) (hP : P.length < 8796093022208) : Ev (fun k => gangwayref20_Has.f k M s P) (P.all qm, M, s) := by
  have l0 : ∀ (d i : Nat), i + d = P.length → Ev (fun k => gangwayref20_Has.l0 k P (i : Int) M s) ((P.drop i).all qm, M, s) := by
    intro d
    induction d with
    | zero =>
      intro i hi
      rw [List.drop_of_length_le (by omega)]
      exact Ev.step (fun k => gangwayref20_Has.l0.eq_2 _ _ _ _ _) (Ev.ifn (by omega) (Ev.cst rfl))
    | succ d ih =>
      intro i hi
      have hil : i < P.length := by omega
      rw [List.drop_eq_getElem_cons hil, List.all_cons]
      refine Ev.step (fun k => gangwayref20_Has.l0.eq_2 _ _ _ _ _) (Ev.ifp (by omega) (Ev.ifp (by omega) ?_))
      rw [rdp P i hil]
      refine Ev.val (rhas_eq (l := M) s _ _ (by omega)) ?_
      by_cases hq : qm P[i] = true
      · have h3 := (qm_iff _).1 hq
        rw [hq, Bool.true_and]
        refine Ev.ifp (decide_eq_true (by omega)) ?_
        rw [w64 (by omega) (by omega), show (i : Int) + 1 = ((i + 1 : Nat) : Int) by omega]
        exact ih (i + 1) (by omega)
      · have h3 : ¬ (0 ≤ P[i].f0 ∧ 0 ≤ P[i].f1 ∧ P[i].f0 + P[i].f1 ≤ 65536) := fun h => hq ((qm_iff _).2 h)
        rw [Bool.eq_false_iff.mpr hq, Bool.false_and]
        exact Ev.ifn (by rw [decide_eq_false (by omega)]; exact Bool.false_ne_true) (Ev.cst rfl)
  have e := l0 P.length 0 (by omega)
  rw [List.drop_zero] at e
  refine Ev.congr (fun k => by rw [gangwayref20_Has.f]) ?_
  exact e
/-! ### What is gathered -/
def gat (M : List Int) : List S50 → List Int
  | [] => []
  | x :: r => seg M x.f0.toNat x.f1.toNat ++ gat M r
theorem gat_append (M : List Int) : ∀ (a b : List S50), gat M (a ++ b) = gat M a ++ gat M b
  | [], b => rfl
  | x :: a, b => by rw [List.cons_append, gat, gat, gat_append M a b, List.append_assoc]
theorem gat_len (M : List Int) (hM : M.length = 65536) : ∀ (P : List S50), P.all qm = true → ((gat M P).length : Int) = sum P
  | [], _ => rfl
  | x :: r, h => by
    rw [List.all_cons, Bool.and_eq_true] at h
    have h1 := (qm_iff x).1 h.1
    have h2 := gat_len M hM r h.2
    have h3 : (seg M x.f0.toNat x.f1.toNat).length = x.f1.toNat := seg_len (by omega)
    rw [gat, sum, List.length_append]
    omega
section
variable (M : List Int) (hM : M.length = 65536) (s : Int) (P : List S50) (hP : P.length ≤ 100000) (ha : P.all qm = true)
include hM hP ha
theorem gat_take_len (i : Nat) : (gat M (P.take i)).length ≤ 6553600000 := by
  have h1 : (P.take i).all qm = true := List.all_eq_true.2 fun x hx => List.all_eq_true.1 ha x (List.mem_of_mem_take hx)
  have h2 := gat_len M hM _ h1
  have h3 := sum_bd _ h1
  have h4 : (P.take i).length ≤ P.length := by rw [List.length_take]; omega
  omega
theorem gather_l0 : ∀ (d i : Nat), i + d = P.length → Ev (fun k => iov_Gather.l0 k (gat M (P.take i)) P (P.length : Int) (i : Int) M s) (gat M P, 0, M, s) := by
  intro d
  induction d with
  | zero =>
    intro i hi
    rw [List.take_of_length_le (by omega)]
    exact Ev.step (fun k => iov_Gather.l0.eq_2 _ _ _ _ _ _ _) (Ev.ifn (by omega) (Ev.cst rfl))
  | succ d ih =>
    intro i hi
    have hil : i < P.length := by omega
    have h3 := all_at ha i hil
    have e := ih (i + 1) (by omega)
    have hg := gat_take_len M hM P hP ha i
    have hsl : (seg M P[i].f0.toNat P[i].f1.toNat).length = P[i].f1.toNat := seg_len (by omega)
    rw [List.take_succ_eq_append_getElem hil, gat_append, show gat M [P[i]] = seg M P[i].f0.toNat P[i].f1.toNat from List.append_nil _] at e
    have hrd := read_ok (l := M) (a := P[i].f0) (n := P[i].f1) s (by omega) (by omega)
    have hsg : (M.take (P[i].f0 + P[i].f1).toNat).drop P[i].f0.toNat = seg M P[i].f0.toNat P[i].f1.toNat := by
      unfold seg
      rw [show (P[i].f0 + P[i].f1).toNat = P[i].f0.toNat + P[i].f1.toNat by omega]
    rw [hsg] at hrd
    refine Ev.step (fun k => iov_Gather.l0.eq_2 _ _ _ _ _ _ _) (Ev.ifp (by omega) (Ev.ifp (by omega) (Ev.ifp (by omega) ?_)))
    rw [rdp P i hil]
    refine Ev.val hrd (Ev.ifp (by dsimp only; omega) ?_)
    rw [w64 (by omega) (by omega), show (i : Int) + 1 = ((i + 1 : Nat) : Int) by omega]
    exact e
theorem rgather_l0 : ∀ (d i : Nat), i + d = P.length → Ev (fun k => gangwayref20_Gather.l0 k P (gat M (P.take i)) (i : Int) M s) (gat M P, M, s) := by
  intro d
  induction d with
  | zero =>
    intro i hi
    rw [List.take_of_length_le (by omega)]
    exact Ev.step (fun k => gangwayref20_Gather.l0.eq_2 _ _ _ _ _ _) (Ev.ifn (by omega) (Ev.cst rfl))
  | succ d ih =>
    intro i hi
    have hil : i < P.length := by omega
    have h3 := all_at ha i hil
    have e := ih (i + 1) (by omega)
    have hg := gat_take_len M hM P hP ha i
    have hsl : (seg M P[i].f0.toNat P[i].f1.toNat).length = P[i].f1.toNat := seg_len (by omega)
    rw [List.take_succ_eq_append_getElem hil, gat_append, show gat M [P[i]] = seg M P[i].f0.toNat P[i].f1.toNat from List.append_nil _] at e
    refine Ev.step (fun k => gangwayref20_Gather.l0.eq_2 _ _ _ _ _ _) (Ev.ifp (by omega) (Ev.ifp (by omega) ?_))
    rw [rdp P i hil, w64 (x := P[i].f0 + P[i].f1) (by omega) (by omega)]
    refine Ev.ifp (by omega) (Ev.ifp (by omega) (Ev.ifp (by omega) (Ev.val (v := seg M P[i].f0.toNat P[i].f1.toNat) ?_ (Ev.ifp (by omega) ?_))))
    · unfold seg
      rw [show (P[i].f0 + P[i].f1).toNat = P[i].f0.toNat + P[i].f1.toNat by omega]
    · rw [w64 (by omega) (by omega), show (i : Int) + 1 = ((i + 1 : Nat) : Int) by omega]
      exact e
end
theorem gather_ev (M : List Int) (hM : M.length = 65536) (s : Int) (P : List S50) (hP : P.length ≤ 100000) : Ev (fun k => iov_Gather.f k M s P) (if P.all qm = true then gat M P else [], if P.all qm = true then 0 else 21, M, s) := by
  refine Ev.congr (fun k => by rw [iov_Gather.f]) ?_
  refine Ev.val (v := (if P.all (iov_all.q M.length) = true then 0 else 21, M, s)) rfl ?_
  rw [hM]
  by_cases ha : P.all qm = true
  · rw [if_pos ha, if_pos ha]
    exact Ev.ifp rfl (gather_l0 M hM s P hP ha P.length 0 (by omega))
  · rw [if_neg ha, if_neg ha]
    exact Ev.ifn (show ¬ ((21 : Int) = 0) by decide) (Ev.cst rfl)
theorem rgather_ev (M : List Int) (hM : M.length = 65536) (s : Int) (P : List S50) (hP : P.length ≤ 100000) (ha : P.all qm = true) : Ev (fun k => gangwayref20_Gather.f k M s P) (gat M P, M, s) := by
  refine Ev.congr (fun k => by rw [gangwayref20_Gather.f]) ?_
  exact rgather_l0 M hM s P hP ha P.length 0 (by omega)
/-! ### What is scattered -/
def sct (B : List Int) : List S50 → Nat → List Int → Nat × List Int
  | [], p, M => (p, M)
  | x :: r, p, M => sct B r (p + min x.f1.toNat (B.length - p)) (splice M x.f0.toNat ((B.take (p + min x.f1.toNat (B.length - p))).drop p))
section
variable (s : Int) (P : List S50) (hP : P.length ≤ 100000) (ha : P.all qm = true) (B : List Int) (hB : B.length ≤ 1000000000000)
include hP ha hB
theorem scatter_l0 : ∀ (d i : Nat), i + d = P.length → ∀ (p : Nat) (M : List Int), p ≤ B.length → M.length = 65536 → Ev (fun k => iov_Scatter.l0 k B (p : Int) P (P.length : Int) (i : Int) M s) (((sct B (P.drop i) p M).1 : Int), 0, (sct B (P.drop i) p M).2, s) := by
  intro d
  induction d with
  | zero =>
    intro i hi p M hp hM
    rw [List.drop_of_length_le (by omega), sct]
    exact Ev.step (fun k => iov_Scatter.l0.eq_2 _ _ _ _ _ _ _ _) (Ev.ifn (by omega) (Ev.cst rfl))
  | succ d ih =>
    intro i hi p M hp hM
    have hil : i < P.length := by omega
    have h3 := all_at ha i hil
    rw [List.drop_eq_getElem_cons hil, sct]
    generalize hk : min P[i].f1.toNat (B.length - p) = k
    have hkl : ((B.take (p + k)).drop p).length = k := by rw [List.length_drop, List.length_take]; omega
    have e := ih (i + 1) (by omega) (p + k) (splice M P[i].f0.toNat ((B.take (p + k)).drop p)) (by omega) (by rw [splice_length (by omega)]; exact hM)
    refine Ev.step (fun k => iov_Scatter.l0.eq_2 _ _ _ _ _ _ _ _) (Ev.ifp (by omega) (Ev.ifp (by omega) (Ev.ifp (by omega) (Ev.ifp (by omega) ?_))))
    have hmn : mn P[i].f1 (wrap64 ((B.length : Int) - (p : Int))) = (k : Int) := by
      rw [w64 (by omega) (by omega)]
      unfold mn
      split <;> omega
    rw [rdp P i hil, hmn, w64 (x := (p : Int) + (k : Int)) (by omega) (by omega), show (p : Int) + (k : Int) = ((p + k : Nat) : Int) by omega]
    refine Ev.ifp (by omega) (Ev.ifp (by omega) ?_)
    rw [Int.toNat_natCast, Int.toNat_natCast]
    refine Ev.val (write_ok M s (a := P[i].f0) (by omega)) ?_
    rw [w64 (by omega) (by omega), show (i : Int) + 1 = ((i + 1 : Nat) : Int) by omega]
    exact e
theorem rscatter_l0 : ∀ (d i : Nat), i + d = P.length → ∀ (p : Nat) (M : List Int), p ≤ B.length → M.length = 65536 → Ev (fun k => gangwayref20_Scatter.l0 k P B (p : Int) (i : Int) M s) (((sct B (P.drop i) p M).1 : Int), (sct B (P.drop i) p M).2, s) := by
  intro d
  induction d with
  | zero =>
    intro i hi p M hp hM
    rw [List.drop_of_length_le (by omega), sct]
    exact Ev.step (fun k => gangwayref20_Scatter.l0.eq_2 _ _ _ _ _ _ _) (Ev.ifn (by omega) (Ev.cst rfl))
  | succ d ih =>
    intro i hi p M hp hM
    have hil : i < P.length := by omega
    have h3 := all_at ha i hil
    rw [List.drop_eq_getElem_cons hil, sct]
    generalize hk : min P[i].f1.toNat (B.length - p) = k
    have hkl : ((B.take (p + k)).drop p).length = k := by rw [List.length_drop, List.length_take]; omega
    have e := ih (i + 1) (by omega) (p + k) (splice M P[i].f0.toNat ((B.take (p + k)).drop p)) (by omega) (by rw [splice_length (by omega)]; exact hM)
    refine Ev.step (fun k => gangwayref20_Scatter.l0.eq_2 _ _ _ _ _ _ _) (Ev.ifp (by omega) ?_)
    have inner : ∀ (c j : Nat), j + c = k → Ev (fun q => gangwayref20_Scatter.l1 q P B ((p + j : Nat) : Int) (i : Int) (j : Int) (splice M P[i].f0.toNat (((B.take (p + k)).drop p).take j)) s) (((sct B (P.drop (i + 1)) (p + k) (splice M P[i].f0.toNat ((B.take (p + k)).drop p))).1 : Int), (sct B (P.drop (i + 1)) (p + k) (splice M P[i].f0.toNat ((B.take (p + k)).drop p))).2, s) := by
      intro c
      induction c with
      | zero =>
        intro j hj
        obtain rfl : j = k := by omega
        rw [List.take_of_length_le (by omega)]
        refine Ev.step (fun k => gangwayref20_Scatter.l1.eq_2 _ _ _ _ _ _ _ _) (Ev.ifp (by omega) (Ev.ifp (by omega) ?_))
        rw [rdp P i hil, w64 (x := (i : Int) + 1) (by omega) (by omega), show (i : Int) + 1 = ((i + 1 : Nat) : Int) by omega]
        by_cases hf : (j : Int) < P[i].f1
        · exact Ev.ifp hf (Ev.ifn (by omega) e)
        · exact Ev.ifn hf e
      | succ c ihc =>
        intro j hj
        have htl : (((B.take (p + k)).drop p).take j).length = j := by rw [List.length_take]; omega
        have hsl : (splice M P[i].f0.toNat (((B.take (p + k)).drop p).take j)).length = 65536 := by rw [splice_length (by rw [htl]; omega)]; exact hM
        refine Ev.step (fun k => gangwayref20_Scatter.l1.eq_2 _ _ _ _ _ _ _ _) (Ev.ifp (by omega) (Ev.ifp (by omega) ?_))
        rw [rdp P i hil, w64 (x := P[i].f0 + (j : Int)) (by omega) (by omega), w64 (x := ((p + j : Nat) : Int) + 1) (by omega) (by omega), w64 (x := (j : Int) + 1) (by omega) (by omega), hsl]
        refine Ev.ifp (by omega) (Ev.ifp (by omega) (Ev.ifp (by omega) (Ev.ifp (by omega) (Ev.ifp (by omega) ?_))))
        have hset : (splice M P[i].f0.toNat (((B.take (p + k)).drop p).take j)).set (P[i].f0 + (j : Int)).toNat (rd B ((p + j : Nat) : Int)) = splice M P[i].f0.toNat (((B.take (p + k)).drop p).take (j + 1)) := by
          have h5 := splice_set (b := M) (i := P[i].f0.toNat) (p := ((B.take (p + k)).drop p).take j) (rd B ((p + j : Nat) : Int)) (by rw [htl]; omega)
          rw [htl] at h5
          rw [show (P[i].f0 + (j : Int)).toNat = P[i].f0.toNat + j by omega, h5, List.take_succ_eq_append_getElem (by omega)]
          congr 2
          rw [rd_nat, List.getD_eq_getElem?_getD, List.getElem?_eq_getElem (by omega), List.getElem_drop, List.getElem_take]
          rfl
        rw [hset, show ((p + j : Nat) : Int) + 1 = ((p + (j + 1) : Nat) : Int) by omega, show (j : Int) + 1 = ((j + 1 : Nat) : Int) by omega]
        exact ihc (j + 1) (by omega)
    have := inner k 0 (by omega)
    rw [List.take_zero, splice_nil, Nat.add_zero] at this
    exact this
end
theorem sct_len (B : List Int) : ∀ (P : List S50) (p : Nat) (M : List Int), P.all qm = true → p ≤ B.length → M.length = 65536 → (sct B P p M).2.length = 65536
  | [], p, M, _, _, hM => hM
  | x :: r, p, M, h, hp, hM => by
    rw [List.all_cons, Bool.and_eq_true] at h
    have h1 := (qm_iff x).1 h.1
    rw [sct]
    have hkl : ((B.take (p + min x.f1.toNat (B.length - p))).drop p).length = min x.f1.toNat (B.length - p) := by rw [List.length_drop, List.length_take]; omega
    exact sct_len B r _ _ h.2 (by omega) (by rw [splice_length (by omega)]; exact hM)
theorem scatter_ev (M : List Int) (hM : M.length = 65536) (s : Int) (P : List S50) (hP : P.length ≤ 100000) (B : List Int) (hB : B.length ≤ 1000000000000) : Ev (fun k => iov_Scatter.f k M s P B) (if P.all qm = true then ((sct B P 0 M).1 : Int) else 0, if P.all qm = true then 0 else 21, if P.all qm = true then (sct B P 0 M).2 else M, s) := by
  refine Ev.congr (fun k => by rw [iov_Scatter.f]) ?_
  refine Ev.val (v := (if P.all (iov_all.q M.length) = true then 0 else 21, M, s)) rfl ?_
  rw [hM]
  by_cases ha : P.all qm = true
  · rw [if_pos ha, if_pos ha, if_pos ha]
    exact Ev.ifp rfl (scatter_l0 s P hP ha B hB P.length 0 (by omega) 0 M (by omega) hM)
  · rw [if_neg ha, if_neg ha, if_neg ha]
    exact Ev.ifn (show ¬ ((21 : Int) = 0) by decide) (Ev.cst rfl)
theorem rscatter_ev (M : List Int) (hM : M.length = 65536) (s : Int) (P : List S50) (hP : P.length ≤ 100000) (ha : P.all qm = true) (B : List Int) (hB : B.length ≤ 1000000000000) : Ev (fun k => gangwayref20_Scatter.f k M s P B) (((sct B P 0 M).1 : Int), (sct B P 0 M).2, s) := by
  refine Ev.congr (fun k => by rw [gangwayref20_Scatter.f]) ?_
  exact rscatter_l0 s P hP ha B hB P.length 0 (by omega) 0 M (by omega) hM
/-! ### A memory twice -/
theorem both_l0 (b : List Int) (hb : b.length ≤ 65536) (hby : Byt b) (Z : List Int) (hZ : Z.length = 65536) : ∀ (d i : Nat), i + d = b.length → Ev (fun k => gangwaylaw19_Both.l0 k b (i : Int) Z 1 (b.take i ++ List.replicate (65536 - i) 0) 1) (true, b ++ List.replicate (65536 - b.length) 0, 1, true, b ++ List.replicate (65536 - b.length) 0, 1) := by
  have fin : ∀ M : List Int, M.length = 65536 → Ev (fun k => gangwaylaw19_Both.j2 k Z 1 M 1) (true, M, 1, true, M, 1) := by
    intro M hM
    have hw : splice Z (0 : Int).toNat M = M := by
      unfold splice
      rw [List.drop_of_length_le (by show Z.length ≤ 0 + M.length; omega)]
      exact List.append_nil _
    have hwr := write_ok Z 1 (a := 0) (b := M) (by omega)
    rw [hw] at hwr
    exact Ev.step (fun k => gangwaylaw19_Both.j2.eq_2 _ _ _ _ _) (Ev.val hwr (Ev.val (v := 0) rfl (Ev.ifp rfl (Ev.cst rfl))))
  intro d
  induction d with
  | zero =>
    intro i hi
    obtain rfl : i = b.length := by omega
    rw [List.take_length]
    exact Ev.step (fun k => gangwaylaw19_Both.l0.eq_2 _ _ _ _ _ _ _) (Ev.ifn (by omega) (fin _ (by rw [List.length_append, List.length_replicate]; omega)))
  | succ d ih =>
    intro i hi
    have hil : i < b.length := by omega
    have e := ih (i + 1) (by omega)
    have hl : (b.take i).length = i := by rw [List.length_take]; omega
    have hlen : (b.take i ++ List.replicate (65536 - i) (0 : Int)).length = 65536 := by rw [List.length_append, List.length_replicate, hl]; omega
    refine Ev.step (fun k => gangwaylaw19_Both.l0.eq_2 _ _ _ _ _ _ _) (Ev.ifp (by omega) ?_)
    rw [hlen, w64 (by omega) (by omega), show (i : Int) + 1 = ((i + 1 : Nat) : Int) by omega, Int.toNat_natCast, rd_nat, List.getD_eq_getElem?_getD, List.getElem?_eq_getElem hil]
    have hset : (b.take i ++ List.replicate (65536 - i) (0 : Int)).set i ((some b[i]).getD 0) = b.take (i + 1) ++ List.replicate (65536 - (i + 1)) 0 := by
      rw [List.set_append_right _ _ (by omega), hl, Nat.sub_self, List.take_succ_eq_append_getElem hil, List.append_assoc]
      congr 1
      rw [show 65536 - i = (65536 - (i + 1)) + 1 by omega, List.replicate_succ]
      rfl
    rw [hset]
    exact Ev.ifp (by omega) (Ev.ifp (by omega) e)
theorem both_ev (b : List Int) (hb : b.length ≤ 65536) (hby : Byt b) : Ev (fun k => gangwaylaw19_Both.f k b) (true, b ++ List.replicate (65536 - b.length) 0, 1, true, b ++ List.replicate (65536 - b.length) 0, 1) := by
  have e0 : (List.replicate ((1 : Int) * 65536).toNat (0 : Int)) = List.replicate 65536 0 := rfl
  have hn := fun k (hk : 1 ≤ k) => new_ok (mi := 1) (ma := -1) (li := 1) (by omega) (by omega) (by omega) (by omega) k (by omega)
  rw [if_pos rfl, e0] at hn
  have hz : (List.replicate 65536 (0 : Int)).length = 65536 := List.length_replicate
  have hr : gangwayref9_NewMem.f 1 (-1) 1 = some (true, List.replicate 65536 0, 1) := by
    unfold gangwayref9_NewMem.f
    rw [if_neg (by omega), if_neg (by omega), w64 (by omega) (by omega), if_pos (by omega), if_pos (by omega)]
    rfl
  have e := fun Z hZ => both_l0 b hb hby Z hZ b.length 0 (by omega)
  have e9 := e (List.replicate 65536 0) hz
  clear e
  rw [List.take_zero, List.nil_append, Nat.sub_zero] at e9
  refine Ev.congr (fun k => by rw [gangwaylaw19_Both.f]) ?_
  generalize hZ : List.replicate 65536 (0 : Int) = Z at *
  refine Ev.bd (Ev.big 1 hn) (Ev.ifp rfl (Ev.val (v := 0) rfl (Ev.ifp rfl ?_)))
  exact Ev.step (fun k => gangwaylaw19_Both.j0.eq_2 _ _ _ _ _) (Ev.ifn Bool.false_ne_true (Ev.val hr (Ev.ifp rfl e9)))
theorem both_len (b : List Int) (hb : b.length ≤ 65536) : (b ++ List.replicate (65536 - b.length) (0 : Int)).length = 65536 := by rw [List.length_append, List.length_replicate]; omega
theorem both_byt (b : List Int) (hby : Byt b) : Byt (b ++ List.replicate (65536 - b.length) (0 : Int)) := hby.append (Byt.rep _)
theorem same_ev (M : List Int) (hM : M.length = 65536) (s c : Int) : Ev (fun k => gangwaylaw19_Same.f k M s M c) (true, M, s) := by
  have hrd := read_ok (l := M) (a := 0) (n := (M.length : Int)) s (by omega) (by omega)
  rw [show ((0 : Int) + (M.length : Int)).toNat = M.length by omega, show (0 : Int).toNat = 0 from rfl, List.take_length, List.drop_zero] at hrd
  refine Ev.congr (fun k => by rw [gangwaylaw19_Same.f]) ?_
  refine (Ev.val hrd (Ev.ifp rfl (Ev.bd (Ev.big (M.length + 1) fun k hk => eqb_ev M M (by omega) k (by omega)) ?_)))
  rw [decide_eq_true rfl]
  exact Ev.cst rfl

theorem heavy_ev (m : List Int) (a n : Int) (P : List S50) (B : List Int) (h1 : m.length ≤ 140737488351232) (h2 : B.length ≤ 140737488351232) (h3 : P.length ≤ 8796093021952) : ∃ r : Bool, (r = false → m.length ≤ 5000 ∧ B.length ≤ 5000 ∧ P.length ≤ 500) ∧ Ev (fun k => gangwaylaw19_heavy.f k m a n P B) r := by
  have hw : wrap64 ((wrap64 ((m.length : Int) + (B.length : Int))) + (wrap64 (10 * (P.length : Int)))) = (m.length : Int) + (B.length : Int) + 10 * (P.length : Int) := by
    rw [w64 (x := (m.length : Int) + (B.length : Int)) (by omega) (by omega), w64 (x := 10 * (P.length : Int)) (by omega) (by omega), w64 (by omega) (by omega)]
  generalize hX : (m.length : Int) + (B.length : Int) + 10 * (P.length : Int) = X at hw
  have fin : ∀ i : Int, ∃ r : Bool, (r = false → X ≤ 5000) ∧ Ev (fun k => gangwaylaw19_heavy.j1 k X i false m a n P B) r := fun i => ⟨decide (X > 5000), fun h => by simpa using h, Ev.step (fun k => gangwaylaw19_heavy.j1.eq_2 _ _ _ _ _ _ _ _ _) (Ev.ifn Bool.false_ne_true (Ev.cst rfl))⟩
  have l0 : ∀ (d i : Nat), i + d = 200 → ∃ r : Bool, (r = false → X ≤ 5000) ∧ Ev (fun k => gangwaylaw19_heavy.l0 k X (i : Int) m a n P B) r := by
    intro d
    induction d with
    | zero =>
      intro i hi
      obtain ⟨r, hr, e⟩ := fin (i : Int)
      refine ⟨r, hr, Ev.step (fun k => gangwaylaw19_heavy.l0.eq_2 _ _ _ _ _ _ _ _) ?_⟩
      by_cases h : (i : Int) < (P.length : Int)
      · refine Ev.ifp h ?_
        rw [decide_eq_false (by omega)]
        exact e
      · exact Ev.ifn h e
    | succ d ih =>
      intro i hi
      by_cases h : (i : Int) < (P.length : Int)
      · obtain ⟨r, hr, e⟩ := ih (i + 1) (by omega)
        by_cases h5 : (rd_T50 P (i : Int)).f1 > 20000
        · by_cases h6 : (rd_T50 P (i : Int)).f1 ≤ 65536
          · refine ⟨true, fun h => by simp at h, Ev.step (fun k => gangwaylaw19_heavy.l0.eq_2 _ _ _ _ _ _ _ _) (Ev.ifp h ?_)⟩
            rw [decide_eq_true (show (i : Int) < 200 by omega)]
            exact Ev.step (fun k => gangwaylaw19_heavy.j1.eq_2 _ _ _ _ _ _ _ _ _) (Ev.ifp rfl (Ev.ifp (by omega) (Ev.ifp h (Ev.ifp h5 (Ev.ifp h6 (Ev.cst rfl))))))
          · refine ⟨r, hr, Ev.step (fun k => gangwaylaw19_heavy.l0.eq_2 _ _ _ _ _ _ _ _) (Ev.ifp h ?_)⟩
            rw [decide_eq_true (show (i : Int) < 200 by omega)]
            refine Ev.step (fun k => gangwaylaw19_heavy.j1.eq_2 _ _ _ _ _ _ _ _ _) (Ev.ifp rfl (Ev.ifp (by omega) (Ev.ifp h (Ev.ifp h5 (Ev.ifn h6 ?_)))))
            rw [w64 (by omega) (by omega), show (i : Int) + 1 = ((i + 1 : Nat) : Int) by omega]
            exact e
        · refine ⟨r, hr, Ev.step (fun k => gangwaylaw19_heavy.l0.eq_2 _ _ _ _ _ _ _ _) (Ev.ifp h ?_)⟩
          rw [decide_eq_true (show (i : Int) < 200 by omega)]
          refine Ev.step (fun k => gangwaylaw19_heavy.j1.eq_2 _ _ _ _ _ _ _ _ _) (Ev.ifp rfl (Ev.ifp (by omega) (Ev.ifp h (Ev.ifn h5 ?_))))
          rw [w64 (by omega) (by omega), show (i : Int) + 1 = ((i + 1 : Nat) : Int) by omega]
          exact e
      · obtain ⟨r, hr, e⟩ := fin (i : Int)
        exact ⟨r, hr, Ev.step (fun k => gangwaylaw19_heavy.l0.eq_2 _ _ _ _ _ _ _ _) (Ev.ifn h e)⟩
  obtain ⟨r, hr, e⟩ := l0 200 0 (by omega)
  refine ⟨r, fun h => by have := hr h; omega, Ev.congr (fun k => by rw [gangwaylaw19_heavy.f]) ?_⟩
  rw [hw]
  exact e
theorem wakes_ev : Ev (fun k => gangwaylaw19_wakes.f k) true := by
  have hb : Byt [9, 0, 0, 0, 2, 0, 0, 0] := by
    intro x hx
    simp only [List.mem_cons, List.not_mem_nil, or_false] at hx
    omega
  have e := both_ev [9, 0, 0, 0, 2, 0, 0, 0] (by decide) hb
  have hl := both_len [9, 0, 0, 0, 2, 0, 0, 0] (by decide)
  have hy := both_byt [9, 0, 0, 0, 2, 0, 0, 0] hb
  rw [show 65536 - ([9, 0, 0, 0, 2, 0, 0, 0] : List Int).length = 65528 from rfl] at e hl hy
  have s1 : seg ([9, 0, 0, 0, 2, 0, 0, 0] ++ List.replicate 65528 (0 : Int)) 0 4 = [9, 0, 0, 0] := by
    generalize List.replicate 65528 (0 : Int) = Z
    rfl
  have s2 : seg ([9, 0, 0, 0, 2, 0, 0, 0] ++ List.replicate 65528 (0 : Int)) 4 4 = [2, 0, 0, 0] := by
    generalize List.replicate 65528 (0 : Int) = Z
    rfl
  generalize [9, 0, 0, 0, 2, 0, 0, 0] ++ List.replicate 65528 (0 : Int) = M at *
  have hp : pcs M 0 1 = [⟨9, 2⟩] := by
    show [pc M 0 0] = _
    unfold pc
    rw [s1, s2]
    rfl
  have hc := code_l0 M hl hy 1 0 1 (by omega) (by omega) 1 0 (by omega)
  have ht : told M 0 1 = ([⟨9, 2⟩], 0) := by
    unfold told
    rw [hp]
    rfl
  rw [ht] at hc
  have hpc : Ev (fun k => iov_Pieces.f k M 1 0 1) ([⟨9, 2⟩], 0, M, 1) := by
    refine Ev.congr (fun k => by rw [iov_Pieces.f]) ?_
    refine Ev.ifn (by decide) ?_
    rw [decide_eq_false (show ¬ ((1 : Int) > 64) by decide)]
    refine Ev.step (fun k => iov_Pieces.j0.eq_2 _ _ _ _ _ _) (Ev.ifn Bool.false_ne_true ?_)
    rw [show wrap64 (8 * 1) = 8 from by unfold wrap64; omega]
    exact Ev.val (mhas_eq (l := M) 1 _ _ (by omega)) (Ev.ifp (decide_eq_true (by omega)) hc)
  refine Ev.congr (fun k => by rw [gangwaylaw19_wakes.f]) ?_
  refine Ev.bd e (Ev.ifp rfl (Ev.ifp rfl (Ev.bd hpc (Ev.val (v := 0) rfl (Ev.ifp rfl (Ev.bd (eqp_ev [⟨9, 2⟩] (by decide)) (Ev.cst rfl)))))))
theorem byt_of {l : List Int} (h : ∀ y ∈ l, (Lit.int .u8 y).wf = true) : Byt l := fun x hx => by
  have := bd8 (h x hx)
  omega
end Go.Proofs.Ytdoaininjfbemaa.Q
