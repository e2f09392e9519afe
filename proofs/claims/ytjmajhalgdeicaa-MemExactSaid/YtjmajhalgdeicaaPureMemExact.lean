/- Whatever is done to a memory, each call answers what the reference says, and the bytes are so: for every script. -/
import Derived.Test.YtjmajhalgdeicaaPAllx7
import Derived.Test.YtjmajhalgdeicaaPAllx4
import Derived.Test.YtjmajhalgdeicaaPAllx5
import Derived.Test.YtjmajhalgdeicaaQRef
namespace Go.Proofs.Ytjmajhalgdeicaa.QE
open Go.RowKit Go.Proofs.Ytjmajhalgdeicaa.PAll Go.Proofs.YtjmajhalgdeicaaW.PrintWords Go.Proofs.YtjmajhalgdeicaaW.PrintLast Go.Proofs.YtjmajhalgdeicaaW.PrintMore Go.Proofs.YtjmajhalgdeicaaU Go.Proofs.Ytjmajhalgdeicaa.Q
set_option linter.unusedVariables false
set_option linter.unusedSectionVars false

theorem inner (A O N : Int) (hN : N = 1 ∨ N = 2 ∨ N = 4 ∨ N = 8) (J : Bool → Nat → Option Bool) (r : Bool) (e : Ev (J (decide (Fm A O N))) r) :
    Ev (fun k => if A ≥ 0 then (if A < 4294967296 then (if O ≥ 0 then J (decide (O < 4294967296)) k else J false k) else J false k) else J false k) r := by
  by_cases h1 : A ≥ 0
  · refine Ev.ifp h1 ?_
    by_cases h2 : A < 4294967296
    · refine Ev.ifp h2 ?_
      by_cases h3 : O ≥ 0
      · refine Ev.ifp h3 ?_
        by_cases h4 : O < 4294967296
        · rw [decide_eq_true (show Fm A O N from ⟨hN, ⟨h1, h2⟩, h3, h4⟩)] at e
          rw [decide_eq_true h4]
          exact e
        · rw [decide_eq_false (show ¬ Fm A O N from fun h => h4 h.2.2.2)] at e
          rw [decide_eq_false h4]
          exact e
      · refine Ev.ifn h3 ?_
        rw [decide_eq_false (show ¬ Fm A O N from fun h => h3 h.2.2.1)] at e
        exact e
    · refine Ev.ifn h2 ?_
      rw [decide_eq_false (show ¬ Fm A O N from fun h => h2 h.2.1.2)] at e
      exact e
  · refine Ev.ifn h1 ?_
    rw [decide_eq_false (show ¬ Fm A O N from fun h => h1 h.2.1.1)] at e
    exact e
theorem chain (A O N : Int) (J : Bool → Nat → Option Bool) (r : Bool) (e : Ev (J (decide (Fm A O N))) r) :
    Ev (fun k => if N = 1 then (if A ≥ 0 then (if A < 4294967296 then (if O ≥ 0 then J (decide (O < 4294967296)) k else J false k) else J false k) else J false k)
      else (if N = 2 then (if A ≥ 0 then (if A < 4294967296 then (if O ≥ 0 then J (decide (O < 4294967296)) k else J false k) else J false k) else J false k)
      else (if N = 4 then (if A ≥ 0 then (if A < 4294967296 then (if O ≥ 0 then J (decide (O < 4294967296)) k else J false k) else J false k) else J false k)
      else (if N = 8 then (if A ≥ 0 then (if A < 4294967296 then (if O ≥ 0 then J (decide (O < 4294967296)) k else J false k) else J false k) else J false k) else J false k)))) r := by
  by_cases h1 : N = 1
  · exact Ev.ifp h1 (inner A O N (by omega) J r e)
  refine Ev.ifn h1 ?_
  by_cases h2 : N = 2
  · exact Ev.ifp h2 (inner A O N (by omega) J r e)
  refine Ev.ifn h2 ?_
  by_cases h4 : N = 4
  · exact Ev.ifp h4 (inner A O N (by omega) J r e)
  refine Ev.ifn h4 ?_
  by_cases h8 : N = 8
  · exact Ev.ifp h8 (inner A O N (by omega) J r e)
  refine Ev.ifn h8 ?_
  rw [decide_eq_false (show ¬ Fm A O N from fun h => by have := h.1; omega)] at e
  exact e

structure Inv (l : List Int) (s : Int) : Prop where
  byt : Byt l
  pages : ∃ p : Nat, l.length = p * 65536 ∧ (p : Int) ≤ s ∧ s ≤ 4
theorem Inv.len {l : List Int} {s : Int} (h : Inv l s) : l.length ≤ 262144 ∧ 0 ≤ s ∧ s ≤ 4 := by
  obtain ⟨p, h1, h2, h3⟩ := h.pages
  omega
theorem Inv.splice {l : List Int} {s : Int} (h : Inv l s) {b : List Int} (hb : Byt b) (i : Nat) (hi : i + b.length ≤ l.length) : Inv (splice l i b) s := by
  obtain ⟨p, h1, h2, h3⟩ := h.pages
  exact ⟨h.byt.splice hb i, p, by rw [splice_length hi]; exact h1, h2, h3⟩

section
variable (a b c : Int) (L : List S48)
/-- All that stands behind act i comes to true. -/
def Go (i : Nat) : Prop := ∀ l s, Inv l s → Ev (fun k => gangwaylaw9_MemExact.l0 k (i : Int) a b c L l s l s) true
variable {a b c L}
theorem fin (i : Int) (l : List Int) (s : Int) (h : Inv l s) : Ev (fun k => gangwaylaw9_MemExact.j1 k i false a b c L l s l s) true := by
  have hl := h.len
  refine Ev.step (fun k => gangwaylaw9_MemExact.j1.eq_2 _ _ _ _ _ _ _ _ _ _ _) ?_
  refine Ev.ifn Bool.false_ne_true ?_
  have hr := read_ok (l := l) (a := 0) (n := (l.length : Int)) s (by omega) (by omega)
  rw [show ((l.take (0 + (l.length : Int)).toNat).drop (0 : Int).toNat) = l from by rw [show (0 + (l.length : Int)).toNat = l.length from by omega, List.take_length]; rfl] at hr
  refine Ev.val hr (Ev.val (v := 0) rfl (Ev.ifp rfl ?_))
  refine Ev.bd (eqb_self l (by omega)) (Ev.ifp rfl ?_)
  exact Ev.bd (Ev.big 20 fun k hk => wakes_ok k hk) (Ev.cst rfl)
theorem size_step {i : Nat} (hi : i < 1000000000) {l : List Int} {s : Int} (h : Inv l s) (g : Go a b c L (i + 1)) : Ev (fun k => gangwaylaw9_MemExact.j9 k (i : Int) a b c L l s l s) true := by
  have hl := h.len
  refine Ev.step (fun k => gangwaylaw9_MemExact.j9.eq_2 _ _ _ _ _ _ _ _ _ _) ?_
  refine Ev.val (size_eq s (by omega)) (Ev.val (x := gangwayref9_Mem_Size.f l s) (size_eq s (by omega)) (Ev.ifp rfl ?_))
  rw [show wrap64 ((i : Int) + 1) = ((i + 1 : Nat) : Int) from by rw [w64 (by omega) (by omega)]; omega]
  exact g l s h
variable {i : Nat} (hi : i < 1000000000) {l : List Int} {s : Int} (h : Inv l s) (g : Go a b c L (i + 1))
include hi h g
theorem j5_step (f0 A O N V : Int) (B : List Int) (code v : Int) (e : Ev (fun k => mem_Memory_Load.f k l s A O N) (v, code, l, s)) : Ev (fun k => gangwaylaw9_MemExact.j4 k (i : Int) code v a b c L l s l s f0 A O N V B) true := by
  refine Ev.step (fun k => gangwaylaw9_MemExact.j4.eq_2 _ _ _ _ _ _ _ _ _ _ _ _ _ _ _ _ _ _) ?_
  refine Ev.bd e (Ev.val (v := code) rfl (Ev.ifp rfl (Ev.ifp rfl ?_)))
  exact size_step hi h g
theorem load_step (f0 A O N V t : Int) (B : List Int) : Ev (fun k => gangwaylaw9_MemExact.j3 k (i : Int) (decide (Fm A O N)) t true a b c L l s l s f0 A O N V B) true := by
  have hl := h.len
  refine Ev.step (fun k => gangwaylaw9_MemExact.j3.eq_2 _ _ _ _ _ _ _ _ _ _ _ _ _ _ _ _ _ _ _) ?_
  refine Ev.ifp rfl ?_
  by_cases hf : Fm A O N
  · have h8 := form_n hf
    refine Ev.ifp (decide_eq_true hf) ?_
    rw [w64 (x := A + O) (by omega) (by omega)]
    by_cases hin : A + O + N ≤ (l.length : Int)
    · exact Ev.bd (rload_ok s h.byt (by omega) hf hin) (Ev.ifp rfl (j5_step hi h g f0 A O N V B 0 _ (Ev.big 9 fun k hk => load_ok s h.byt hf hin k (by omega))))
    · exact Ev.bd (rload_no s (by omega) (by omega)) (Ev.ifn Bool.false_ne_true (j5_step hi h g f0 A O N V B 21 0 (Ev.big 1 fun k hk => load_fault l s hf hin k (by omega))))
  · refine Ev.ifn (fun e => hf (of_decide_eq_true e)) ?_
    exact j5_step hi h g f0 A O N V B 100 0 (Ev.big 1 fun k hk => load_form l s hf k (by omega))
theorem j9_step (f0 A O N V : Int) (B : List Int) (code : Int) (l' : List Int) (h' : Inv l' s) (e : mem_Memory_Store.f l s A O N V = some (code, l', s)) : Ev (fun k => gangwaylaw9_MemExact.j8 k (i : Int) code a b c L l s l' s f0 A O N V B) true := by
  refine Ev.step (fun k => gangwaylaw9_MemExact.j8.eq_2 _ _ _ _ _ _ _ _ _ _ _ _ _ _ _ _ _) ?_
  refine Ev.val e (Ev.val (v := code) rfl (Ev.ifp rfl ?_))
  exact size_step hi h' g
theorem store_step (f0 A O N V t : Int) (B : List Int) (h5 : t ≠ 5) (h6 : t ≠ 6) (h7 : t ≠ 7) : Ev (fun k => gangwaylaw9_MemExact.j3 k (i : Int) (decide (Fm A O N)) t false a b c L l s l s f0 A O N V B) true := by
  have hl := h.len
  refine Ev.step (fun k => gangwaylaw9_MemExact.j3.eq_2 _ _ _ _ _ _ _ _ _ _ _ _ _ _ _ _ _ _ _) ?_
  refine Ev.ifn Bool.false_ne_true (Ev.ifn h5 (Ev.ifn h6 (Ev.ifn h7 ?_)))
  by_cases hf : Fm A O N
  · have h8 := form_n hf
    refine Ev.ifp (decide_eq_true hf) ?_
    rw [w64 (x := A + O) (by omega) (by omega)]
    by_cases hin : A + O + N ≤ (l.length : Int)
    · exact Ev.bd (rstore_ok s V (by omega) hf hin) (Ev.ifp rfl (j9_step hi h g f0 A O N V B 0 _ (h.splice (Byt.le V _) _ (by rw [le_length]; omega)) (store_ok l s V hf hin)))
    · exact Ev.bd (rstore_no s V (by omega) (by omega)) (Ev.ifn Bool.false_ne_true (j9_step hi h g f0 A O N V B 21 l h (store_fault l s V hf hin)))
  · refine Ev.ifn (fun e => hf (of_decide_eq_true e)) ?_
    exact j9_step hi h g f0 A O N V B 100 l h (store_form l s V hf)
theorem grow_step (x : Bool) (f0 A O N V : Int) (B : List Int) : Ev (fun k => gangwaylaw9_MemExact.j3 k (i : Int) x 7 false a b c L l s l s f0 A O N V B) true := by
  have hl := h.len
  refine Ev.step (fun k => gangwaylaw9_MemExact.j3.eq_2 _ _ _ _ _ _ _ _ _ _ _ _ _ _ _ _ _ _ _) ?_
  refine Ev.ifn Bool.false_ne_true (Ev.ifn (by decide) (Ev.ifn (by decide) (Ev.ifp rfl ?_)))
  by_cases hN : N < 0 ∨ N > s - (l.length : Int) / 65536
  · have e := grow_no (l := l) (s := s) (n := N) (by omega) (by omega) hN
    exact Ev.val e (Ev.val (x := gangwayref9_Mem_Grow.f l s N) e (Ev.ifp rfl (size_step hi h g)))
  · have e := grow_ok (l := l) (s := s) (n := N) (by omega) (by omega) (by omega) (by omega)
    refine Ev.val e (Ev.val (x := gangwayref9_Mem_Grow.f l s N) e (Ev.ifp rfl (size_step (s := s) (l := l ++ List.replicate (N * 65536).toNat 0) hi ?_ g)))
    obtain ⟨p, h1, h2, h3⟩ := h.pages
    exact ⟨h.byt.append (Byt.rep _), p + N.toNat, by rw [List.length_append, List.length_replicate]; omega, by omega, h3⟩
theorem read_step (x : Bool) (f0 A O N V : Int) (B : List Int) : Ev (fun k => gangwaylaw9_MemExact.j3 k (i : Int) x 5 false a b c L l s l s f0 A O N V B) true := by
  have hl := h.len
  refine Ev.step (fun k => gangwaylaw9_MemExact.j3.eq_2 _ _ _ _ _ _ _ _ _ _ _ _ _ _ _ _ _ _ _) ?_
  refine Ev.ifn Bool.false_ne_true (Ev.ifp rfl (Ev.val (has_eq (l := l) s A N (by omega)) ?_))
  have no : ¬ (0 ≤ A ∧ 0 ≤ N ∧ A + N ≤ (l.length : Int)) → ∀ (r : List Int × Int × List Int × Int), r = ([], 21, l, s) → Ev (fun k => (gangwaylaw9_num.f r.2.1).bind fun t478 => (if t478 = 21 then ((gangwayref0_EqBytes.f k r.1 ([] : List Int)).bind fun t479 => (if t479 = true then ((gangwaylaw0_Bytes.f k r.1).bind fun _ => (gangwaylaw9_MemExact.j9 k (i : Int) a b c L r.2.2.1 r.2.2.2 l s)) else (none))) else (none))) true := by
    intro hn r hr
    subst hr
    refine Ev.val (v := 21) rfl (Ev.ifp rfl (Ev.bd (eqb_self [] (by simp)) (Ev.ifp rfl (Ev.bd (bytes_ev [] (by simp)) ?_))))
    exact size_step hi h g
  by_cases hh : 0 ≤ A ∧ 0 ≤ N ∧ A + N ≤ (l.length : Int)
  · refine Ev.ifp (decide_eq_true hh) ?_
    refine Ev.step (fun k => gangwaylaw9_MemExact.j5.eq_2 _ _ _ _ _ _ _ _ _ _ _ _ _ _ _ _ _ _ _) ?_
    by_cases h5 : N ≤ 5000
    · refine Ev.ifp (decide_eq_true h5) ?_
      rw [w64 (x := A + N) (by omega) (by omega)]
      refine Ev.ifp hh.1 (Ev.ifp (by omega) (Ev.ifp hh.2.2 (Ev.val (read_ok (l := l) s (by omega) hh) (Ev.val (v := 0) rfl (Ev.ifp rfl ?_)))))
      refine Ev.bd (eqb_self _ (by rw [List.length_drop, List.length_take]; omega)) (Ev.ifp rfl (Ev.bd (bytes_ev _ (by rw [List.length_drop, List.length_take]; omega)) ?_))
      exact size_step hi h g
    · refine Ev.ifn (fun e => h5 (of_decide_eq_true e)) (Ev.ifp (by omega) (Ev.val (has_eq (l := l) s A N (by omega)) (Ev.ifp (decide_eq_true hh) ?_)))
      rw [show wrap64 ((i : Int) + 1) = ((i + 1 : Nat) : Int) from by rw [w64 (by omega) (by omega)]; omega]
      exact g l s h
  · refine Ev.ifn (fun e => hh (of_decide_eq_true e)) ?_
    refine Ev.step (fun k => gangwaylaw9_MemExact.j5.eq_2 _ _ _ _ _ _ _ _ _ _ _ _ _ _ _ _ _ _ _) ?_
    refine Ev.ifn Bool.false_ne_true ?_
    by_cases h5 : N > 5000
    · refine Ev.ifp h5 (Ev.val (has_eq (l := l) s A N (by omega)) (Ev.ifn (fun e => hh (of_decide_eq_true e)) (Ev.val (read_fault (l := l) s (by omega) hh) ?_)))
      exact no hh _ rfl
    · refine Ev.ifn h5 (Ev.val (read_fault (l := l) s (by omega) hh) ?_)
      exact no hh _ rfl
theorem j8_step (f0 A O N V : Int) (B : List Int) (hB : B.length < 140737488355328) (code : Int) (l' : List Int) (h' : Inv l' s) (e : mem_Memory_Write.f l s A B = some (code, l', s)) : Ev (fun k => gangwaylaw9_MemExact.j7 k (i : Int) code a b c L l s l' s f0 A O N V B) true := by
  refine Ev.step (fun k => gangwaylaw9_MemExact.j7.eq_2 _ _ _ _ _ _ _ _ _ _ _ _ _ _ _ _ _) ?_
  refine Ev.bd (copy_ev B hB) (Ev.val e (Ev.bd (bytes_ev B hB) (Ev.val (v := code) rfl (Ev.ifp rfl ?_))))
  exact size_step hi h' g
theorem l1_step (f0 A O N V : Int) (B : List Int) (hB : B.length < 140737488355328) (hb : Byt B) (hA : 0 ≤ A ∧ A + (B.length : Int) ≤ (l.length : Int)) : ∀ (d j : Nat), j + d = B.length → Ev (fun k => gangwaylaw9_MemExact.l1 k (i : Int) 0 (j : Int) a b c L l s (splice l A.toNat (B.take j)) s f0 A O N V B) true := by
  have hl := h.len
  intro d
  induction d with
  | zero =>
    intro j hj
    refine Ev.step (fun k => gangwaylaw9_MemExact.l1.eq_2 _ _ _ _ _ _ _ _ _ _ _ _ _ _ _ _ _ _) ?_
    refine Ev.ifn (by omega) ?_
    rw [List.take_of_length_le (by omega)]
    exact j8_step hi h g f0 A O N V B hB 0 _ (h.splice hb _ (by omega)) (write_ok l s hA)
  | succ d ih =>
    intro j hj
    have hsl : (splice l A.toNat (B.take j)).length = l.length := splice_length (by rw [List.length_take]; omega)
    refine Ev.step (fun k => gangwaylaw9_MemExact.l1.eq_2 _ _ _ _ _ _ _ _ _ _ _ _ _ _ _ _ _ _) ?_
    rw [w64 (x := A + (j : Int)) (by omega) (by omega)]
    refine Ev.ifp (by omega) (Ev.ifp (by omega) (Ev.ifp (by omega) (Ev.ifp (by rw [hsl]; omega) ?_)))
    have et : B.take j ++ [B.getD j 0] = B.take (j + 1) := by
      rw [List.take_succ_eq_append_getElem (by omega), List.getD_eq_getElem?_getD, List.getElem?_eq_getElem (by omega)]
      rfl
    rw [show (A + (j : Int)).toNat = A.toNat + (B.take j).length by rw [List.length_take]; omega, splice_set _ (by rw [List.length_take]; omega), rd_nat, et, w64 (x := (j : Int) + 1) (by omega) (by omega), show (j : Int) + 1 = ((j + 1 : Nat) : Int) by omega]
    exact ih (j + 1) (by omega)
theorem write_step (x : Bool) (f0 A O N V : Int) (B : List Int) (hB : B.length < 140737488355328) (hb : Byt B) : Ev (fun k => gangwaylaw9_MemExact.j3 k (i : Int) x 6 false a b c L l s l s f0 A O N V B) true := by
  have hl := h.len
  refine Ev.step (fun k => gangwaylaw9_MemExact.j3.eq_2 _ _ _ _ _ _ _ _ _ _ _ _ _ _ _ _ _ _ _) ?_
  refine Ev.ifn Bool.false_ne_true (Ev.ifn (by decide) (Ev.ifp rfl (Ev.val (has_eq (l := l) s A (B.length : Int) (by omega)) ?_)))
  by_cases hh : 0 ≤ A ∧ 0 ≤ (B.length : Int) ∧ A + (B.length : Int) ≤ (l.length : Int)
  · refine Ev.ifp (decide_eq_true hh) ?_
    have e := l1_step hi h g f0 A O N V B hB hb ⟨hh.1, hh.2.2⟩ B.length 0 (by omega)
    rw [List.take_zero, splice_nil] at e
    exact e
  · refine Ev.ifn (fun e => hh (of_decide_eq_true e)) ?_
    exact j8_step hi h g f0 A O N V B hB 21 l h (write_fault l s (by omega))
theorem act_step (f0 A O N V : Int) (B : List Int) (hB : B.length < 140737488355328) (hb : Byt B) : Ev (fun k => gangwaylaw9_MemExact.j2 k (i : Int) (decide (Fm A O N)) a b c L l s l s f0 A O N V B) true := by
  refine Ev.step (fun k => gangwaylaw9_MemExact.j2.eq_2 _ _ _ _ _ _ _ _ _ _ _ _ _ _ _ _ _) ?_
  refine Ev.val (within_eq f0 8 (by omega) (by omega)) ?_
  have ht : 0 ≤ f0 % 18446744073709551616 % 8 ∧ f0 % 18446744073709551616 % 8 < 8 := by omega
  generalize f0 % 18446744073709551616 % 8 = t at *
  by_cases h3 : t = 3
  · refine Ev.ifp h3 ?_
    rw [show (t == 3) = true from by simp [h3]]
    exact load_step hi h g f0 A O N V t B
  refine Ev.ifn h3 ?_
  by_cases h4 : t = 4
  · rw [show (t == 4) = true from by simp [h4]]
    exact load_step hi h g f0 A O N V t B
  rw [show (t == 4) = false from by simp [h4]]
  by_cases h5 : t = 5
  · subst h5
    exact read_step hi h g _ f0 A O N V B
  by_cases h6 : t = 6
  · subst h6
    exact write_step hi h g _ f0 A O N V B hB hb
  by_cases h7 : t = 7
  · subst h7
    exact grow_step hi h g _ f0 A O N V B
  exact store_step hi h g f0 A O N V t B h5 h6 h7
end
theorem all_ (a b c : Int) (L : List S48) (hL : L.length < 10000000000000) (hk : ∀ y ∈ L, okT48 y) : ∀ (d i : Nat), i + d = 30 → Go a b c L i := by
  intro d
  induction d with
  | zero =>
    intro i hi l s h
    refine Ev.step (fun k => gangwaylaw9_MemExact.l0.eq_2 _ _ _ _ _ _ _ _ _ _) ?_
    by_cases hlt : (i : Int) < (L.length : Int)
    · refine Ev.ifp hlt ?_
      rw [decide_eq_false (by omega)]
      exact fin _ l s h
    · exact Ev.ifn hlt (fin _ l s h)
  | succ d ih =>
    intro i hi l s h
    refine Ev.step (fun k => gangwaylaw9_MemExact.l0.eq_2 _ _ _ _ _ _ _ _ _ _) ?_
    by_cases hlt : (i : Int) < (L.length : Int)
    · refine Ev.ifp hlt ?_
      rw [decide_eq_true (show (i : Int) < 30 by omega)]
      refine Ev.step (fun k => gangwaylaw9_MemExact.j1.eq_2 _ _ _ _ _ _ _ _ _ _ _) ?_
      refine Ev.ifp rfl (Ev.ifp (by omega) (Ev.ifp hlt ?_))
      have hm : rd_T48 L (i : Int) ∈ L := by
        unfold rd_T48
        rw [List.getD_eq_getElem?_getD, List.getElem?_eq_getElem (by omega)]
        exact List.getElem_mem _
      obtain ⟨_, _, _, _, _, hBl, hBy⟩ := hk _ hm
      generalize rd_T48 L (i : Int) = y at *
      have hb : Byt y.f5 := fun z hz => by have := bd8 (hBy z hz); omega
      exact chain y.f1 y.f2 y.f3 (fun q k => gangwaylaw9_MemExact.j2 k (i : Int) q a b c L l s l s y.f0 y.f1 y.f2 y.f3 y.f4 y.f5) true (act_step (by omega) h (ih (i + 1) (by omega)) y.f0 y.f1 y.f2 y.f3 y.f4 y.f5 (by omega) hb)
    · exact Ev.ifn hlt (fin _ l s h)

theorem heavy_ev (a b c : Int) (L : List S48) (hL : L.length < 10000000000000) : ∃ r, Ev (fun k => gangwaylaw9_heavy.f k a b c L) r ∧ (r = false → c ≤ 4) := by
  have key : ∀ (d i : Nat), i + d = 30 → ∀ n : Int, ∃ r, Ev (fun k => gangwaylaw9_heavy.l0 k n (i : Int) a b c L) r ∧ (r = false → c ≤ 4) := by
    intro d
    have fin_ : ∀ (n : Int), ∃ r, Ev (fun k : Nat => (if n > 5000 then (some true) else (if a > 2 then (if a ≤ 16 then (some true) else (some (decide (c > 4)))) else (some (decide (c > 4)))) : Option Bool)) r ∧ (r = false → c ≤ 4) := by
      intro n
      by_cases h1 : n > 5000
      · exact ⟨true, Ev.ifp h1 (Ev.cst rfl), by simp⟩
      by_cases h2 : a > 2
      · by_cases h3 : a ≤ 16
        · exact ⟨true, Ev.ifn h1 (Ev.ifp h2 (Ev.ifp h3 (Ev.cst rfl))), by simp⟩
        · exact ⟨_, Ev.ifn h1 (Ev.ifp h2 (Ev.ifn h3 (Ev.cst rfl))), by simp⟩
      · exact ⟨_, Ev.ifn h1 (Ev.ifn h2 (Ev.cst rfl)), by simp⟩
    induction d with
    | zero =>
      intro i hi n
      obtain ⟨r, e, hr⟩ := fin_ n
      refine ⟨r, Ev.step (fun k => gangwaylaw9_heavy.l0.eq_2 _ _ _ _ _ _ _) ?_, hr⟩
      by_cases hlt : (i : Int) < (L.length : Int)
      · exact Ev.ifp hlt (Ev.ifn (by omega) e)
      · exact Ev.ifn hlt e
    | succ d ih =>
      intro i hi n
      by_cases hlt : (i : Int) < (L.length : Int)
      · obtain ⟨r, e, hr⟩ := ih (i + 1) (by omega) (wrap64 (n + ((rd_T48 L (i : Int)).f5.length : Int)))
        refine ⟨r, Ev.step (fun k => gangwaylaw9_heavy.l0.eq_2 _ _ _ _ _ _ _) (Ev.ifp hlt (Ev.ifp (by omega) (Ev.ifp (by omega) ?_))), hr⟩
        rw [show wrap64 ((i : Int) + 1) = ((i + 1 : Nat) : Int) from by rw [w64 (by omega) (by omega)]; omega]
        exact e
      · obtain ⟨r, e, hr⟩ := fin_ n
        exact ⟨r, Ev.step (fun k => gangwaylaw9_heavy.l0.eq_2 _ _ _ _ _ _ _) (Ev.ifn hlt e), hr⟩
  exact key 30 0 (by omega) 0
theorem may_eq (a b c : Int) : gangwayref9_MayMem.f a b c = some (decide ((0 ≤ c ∧ c ≤ 16) ∧ 0 ≤ a ∧ (b = -1 ∨ a ≤ b))) := by
  unfold gangwayref9_MayMem.f
  by_cases h1 : c ≥ 0
  · rw [if_pos h1]
    by_cases h2 : c ≤ 16
    · rw [if_pos h2]
      by_cases h3 : a ≥ 0
      · rw [if_pos h3]
        by_cases h4 : b = -1
        · rw [if_pos h4]; congr 1; simp; omega
        · rw [if_neg h4]; congr 1; simp only [decide_eq_decide]; omega
      · rw [if_neg h3]; congr 1; simp; omega
    · rw [if_neg h2]; congr 1; simp; omega
  · rw [if_neg h1]; congr 1; simp; omega
theorem rnew_ok {a b c : Int} (h1 : 0 ≤ c ∧ c ≤ 16) (h2 : 0 ≤ a) (h3 : b = -1 ∨ a ≤ b) (h4 : a ≤ c) : gangwayref9_NewMem.f a b c = some (true, List.replicate (a * 65536).toNat 0, if b = -1 then c else mn c b) := by
  unfold gangwayref9_NewMem.f
  rw [if_neg (by omega), w64 (by omega) (by omega)]
  by_cases hb : b = -1
  · rw [if_neg (by omega), if_pos (by omega), if_pos (by omega), if_pos hb]
  · rw [if_pos (by omega), if_pos (by omega), if_pos (by omega), if_neg hb]
theorem rnew_no {a b c : Int} (h4 : a > c) : gangwayref9_NewMem.f a b c = some (false, [], 0) := by
  unfold gangwayref9_NewMem.f
  rw [if_pos h4]
theorem main_ (a b c : Int) (L : List S48) (hL : L.length < 10000000000000) (hk : ∀ y ∈ L, okT48 y) : Ev (fun k => gangwaylaw9_MemExact.f k a b c L) true := by
  obtain ⟨r, e, hr⟩ := heavy_ev a b c L hL
  refine Ev.congr (fun k => by rw [gangwaylaw9_MemExact.f]) (Ev.bd e ?_)
  cases r with
  | true => exact Ev.ifp rfl (Ev.cst rfl)
  | false =>
    have hc := hr rfl
    refine Ev.ifn Bool.false_ne_true ?_
    have wk : Ev (fun k => (gangwaylaw9_wakes.f k).bind fun t => some t) true := Ev.bd (Ev.big 20 fun k hk => wakes_ok k hk) (Ev.cst rfl)
    by_cases hm : (0 ≤ c ∧ c ≤ 16) ∧ 0 ≤ a ∧ (b = -1 ∨ a ≤ b)
    · by_cases hac : a ≤ c
      · refine Ev.bd (Ev.big 1 fun k hk => new_ok hm.1 hm.2.1 hm.2.2 hac k (by omega)) (Ev.ifp rfl (Ev.val (may_eq a b c) (Ev.ifp (decide_eq_true hm) (Ev.val (rnew_ok hm.1 hm.2.1 hm.2.2 hac) (Ev.ifp rfl (Ev.val (v := 0) rfl (Ev.ifp rfl ?_)))))))
        refine all_ a b c L hL hk 30 0 (by omega) (List.replicate (a * 65536).toNat 0) (if b = -1 then c else mn c b) ⟨Byt.rep _, a.toNat, by rw [List.length_replicate]; omega, ?_, ?_⟩
        · by_cases hb : b = -1
          · rw [if_pos hb]; omega
          · rw [if_neg hb]; unfold mn; omega
        · by_cases hb : b = -1
          · rw [if_pos hb]; omega
          · rw [if_neg hb]; unfold mn; omega
      · refine Ev.bd (Ev.big 1 fun k hk => new_nospc hm.1 hm.2.1 hm.2.2 (by omega) k (by omega)) (Ev.ifn Bool.false_ne_true (Ev.val (may_eq a b c) (Ev.ifp (decide_eq_true hm) (Ev.val (rnew_no (by omega)) (Ev.ifn Bool.false_ne_true (Ev.val (v := 51) rfl (Ev.ifp rfl ?_)))))))
        exact wk
    · refine Ev.bd (Ev.big 1 fun k hk => new_form (by omega) k (by omega)) (Ev.ifn Bool.false_ne_true (Ev.val (may_eq a b c) (Ev.ifn (fun e => hm (of_decide_eq_true e)) (Ev.val (v := 100) rfl (Ev.ifp rfl ?_)))))
      exact wk
end Go.Proofs.Ytjmajhalgdeicaa.QE
namespace Go.Proofs.Ytjmajhalgdeicaa.Pure
open Go.RowKit Go.Proofs.Ytjmajhalgdeicaa.PAll Go.Proofs.YtjmajhalgdeicaaW.PrintWords Go.Proofs.Ytjmajhalgdeicaa.QE
theorem MemExact : gangwaylaw9_MemExact.Pure := by
  intro x0 h
  exact Ev.rounds (main_ _ _ _ x0.f2 (by have := h.2.2.1; omega) h.2.2.2)
end Go.Proofs.Ytjmajhalgdeicaa.Pure
