/- Blocks as deep as may be are read, and one deeper they are not: computed, whatever the list is. -/
import Derived.Test.YtlahigmoljflkaaPAllx26
import Derived.Test.YtlahigmoljflkaaPAllx7
import Derived.Test.YtlahigmoljflkaaPAllx25
import Derived.Test.YtlahigmoljflkaaPAllx13
import Derived.Test.YtlahigmoljflkaaQCode
namespace Go.Proofs.Ytlahigmoljflkaa.Pure
open Go.RowKit Go.Proofs.Ytlahigmoljflkaa.PAll Go.Proofs.YtlahigmoljflkaaW.PrintWords Go.Proofs.YtlahigmoljflkaaW.PrintLast Go.Proofs.YtlahigmoljflkaaW.PrintMore Go.Proofs.YtlahigmoljflkaaU Go.Proofs.Ytlahigmoljflkaa.Q
set_option linter.unusedVariables false
/-- So many blocks within one another. -/
def xs : Nat → List S45
  | 0 => []
  | i + 1 => [(⟨2 + ((i % 2 : Nat) : Int), 64, 0, 0, 0, 0, [], xs i, []⟩ : S45)]
/-- So many heads of blocks, as bytes. -/
def ds : Nat → List Int
  | 0 => []
  | i + 1 => ds i ++ [2, 64]
/-- .. and so many ends. -/
def es : Nat → List Int
  | 0 => ds 41
  | i + 1 => es i ++ [11]
theorem ds_len : ∀ i, (ds i).length = 2 * i
  | 0 => rfl
  | i + 1 => by rw [ds, List.length_append, ds_len i]; simp; omega
theorem es_len : ∀ i, (es i).length = 82 + i
  | 0 => by rw [es, ds_len]
  | i + 1 => by rw [es, List.length_append, es_len i]; simp; omega
/-- So many blocks are written and read. -/
def goes (i : Nat) : Bool :=
  match code_Encode.f 400 (xs i) with
  | some b => (b.2 == 0) && (b.1.length == 3 * i + 1) && match code_Decode.f 400 b.1 with
    | some d => (d.2.2 == 0) && (gangwayref0_EqInstrs.f 400 (xs i) d.1 == some true)
    | none => false
  | none => false
/-- One block too many. -/
def stops : Bool :=
  match code_Encode.f 400 (xs 41), code_Decode.f 400 (es 42) with
  | some b, some d => (b.2 == 100) && (d.2.2 == 100)
  | _, _ => false
theorem all_go : (List.range 41).all goes = true := by decide +kernel
theorem it_stops : stops = true := by decide +kernel
theorem goes_ev (i : Nat) (h : goes i = true) : ∃ (b : List Int) (d : List S45) (n : Int), Ev (fun k => code_Encode.f k (xs i)) (b, 0) ∧ (b.length : Int) = 3 * i + 1 ∧ Ev (fun k => code_Decode.f k b) (d, n, 0) ∧ Ev (fun k => gangwayref0_EqInstrs.f k (xs i) d) true := by
  unfold goes at h
  split at h
  · rename_i b hb
    rw [Bool.and_eq_true, Bool.and_eq_true] at h
    obtain ⟨⟨h1, h2⟩, h3⟩ := h
    split at h3
    · rename_i d hd
      rw [Bool.and_eq_true] at h3
      obtain ⟨h3, h4⟩ := h3
      have h1' := eq_of_beq h1
      have h2' := eq_of_beq h2
      have h3' := eq_of_beq h3
      have h4' := eq_of_beq h4
      obtain ⟨b, e⟩ := b
      obtain ⟨d, n, f⟩ := d
      simp only at h1' h2' h3' h4' hd
      subst h1' h3'
      exact ⟨b, d, n, Ev.of (fun k => code_Encode.mono _ k) hb, by rw [h2']; omega, Ev.of (fun k => code_Decode.mono _ k) hd, Ev.of (fun k => gangwayref0_EqInstrs.mono _ _ k) h4'⟩
    · exact absurd h3 (by simp)
  · exact absurd h (by simp)
theorem stops_ev : ∃ (b : List Int) (d : List S45) (n : Int), Ev (fun k => code_Encode.f k (xs 41)) (b, 100) ∧ Ev (fun k => code_Decode.f k (es 42)) (d, n, 100) := by
  have h := it_stops
  unfold stops at h
  split at h
  · rename_i b d hb hd
    rw [Bool.and_eq_true] at h
    obtain ⟨h1, h2⟩ := h
    have h1' := eq_of_beq h1
    have h2' := eq_of_beq h2
    obtain ⟨b, e⟩ := b
    obtain ⟨d, n, f⟩ := d
    simp only at h1' h2'
    subst h1' h2'
    exact ⟨b, d, n, Ev.of (fun k => code_Encode.mono _ k) hb, Ev.of (fun k => code_Decode.mono _ k) hd⟩
  · exact absurd h (by simp)
theorem deep_l2 (L : List S26) (d : List S45) (n : Int) (hd : Ev (fun k => code_Decode.f k (es 42)) (d, n, 100)) : ∀ (q i : Nat), i + q = 42 → Ev (fun k => gangwaylaw5_CodeDeep.l2 k L 100 (es i) (i : Int)) true := by
  intro q
  induction q with
  | zero =>
    intro i hi
    obtain rfl : i = 42 := by omega
    refine Ev.step (fun k => by rw [gangwaylaw5_CodeDeep.l2]) ?_
    refine Ev.ifn (by omega) ?_
    refine Ev.bd hd ?_
    refine Ev.val (v := 100) rfl ?_
    refine Ev.ifp rfl ?_
    refine Ev.val (v := 100) rfl ?_
    refine Ev.ifp rfl (Ev.ifp (by omega) ?_)
    exact Ev.bd wakes_ev (Ev.now _)
  | succ q ih =>
    intro i hi
    refine Ev.step (fun k => by rw [gangwaylaw5_CodeDeep.l2]) ?_
    refine Ev.ifp (by omega) (Ev.ifp (by rw [es_len]; omega) ?_)
    rw [show wrap64 ((i : Int) + 1) = ((i + 1 : Nat) : Int) from by rw [w64 (by omega) (by omega)]; omega]
    exact ih (i + 1) (by omega)
theorem deep_l1 (L : List S26) (next : Ev (fun k => gangwaylaw5_CodeDeep.l2 k L 100 (ds 41) 0) true) : ∀ (q i : Nat), i + q = 41 → Ev (fun k => gangwaylaw5_CodeDeep.l1 k L 100 (ds i) (i : Int)) true := by
  intro q
  induction q with
  | zero =>
    intro i hi
    obtain rfl : i = 41 := by omega
    refine Ev.step (fun k => by rw [gangwaylaw5_CodeDeep.l1]) ?_
    refine Ev.ifn (by omega) ?_
    exact next
  | succ q ih =>
    intro i hi
    refine Ev.step (fun k => by rw [gangwaylaw5_CodeDeep.l1]) ?_
    refine Ev.ifp (by omega) ?_
    refine Ev.val (v := ([2, 64] : List Int)) rfl ?_
    refine Ev.ifp (by rw [ds_len]; simp; omega) ?_
    rw [show wrap64 ((i : Int) + 1) = ((i + 1 : Nat) : Int) from by rw [w64 (by omega) (by omega)]; omega]
    exact ih (i + 1) (by omega)
theorem deep_l0 (L : List S26) : ∀ (q i : Nat), i + q = 41 → Ev (fun k => gangwaylaw5_CodeDeep.l0 k L (xs i) (i : Int)) true := by
  intro q
  induction q with
  | zero =>
    intro i hi
    obtain rfl : i = 41 := by omega
    obtain ⟨b, d, n, h1, h2⟩ := stops_ev
    refine Ev.step (fun k => by rw [gangwaylaw5_CodeDeep.l0]) ?_
    refine Ev.ifn (by omega) ?_
    refine Ev.bd h1 ?_
    exact deep_l1 L (deep_l2 L d n h2 42 0 (by omega)) 41 0 (by omega)
  | succ q ih =>
    intro i hi
    obtain ⟨b, d, n, h1, h2, h3, h4⟩ := goes_ev i (List.all_eq_true.1 all_go i (List.mem_range.2 (by omega)))
    refine Ev.step (fun k => by rw [gangwaylaw5_CodeDeep.l0]) ?_
    refine Ev.ifp (by omega) ?_
    refine Ev.bd h1 ?_
    refine Ev.val (v := 0) rfl ?_
    refine Ev.ifp rfl (Ev.ifp (by rw [h2, w64 (by rw [w64 (by omega) (by omega)]; omega) (by rw [w64 (by omega) (by omega)]; omega), w64 (by omega) (by omega)]) ?_)
    refine Ev.bd h3 ?_
    refine Ev.val (v := 0) rfl ?_
    refine Ev.ifp rfl ?_
    refine Ev.bd h4 ?_
    refine Ev.ifp rfl ?_
    rw [show wrap64 ((i : Int) + 1) = ((i + 1 : Nat) : Int) from by rw [w64 (by omega) (by omega)]; omega,
      show wrap64 (2 + Int.tmod (i : Int) 2) = 2 + ((i % 2 : Nat) : Int) from by rw [Int.tmod_eq_emod_of_nonneg (by omega), w64 (by omega) (by omega)]; omega]
    exact ih (i + 1) (by omega)
theorem CodeDeep : gangwaylaw5_CodeDeep.Pure := by
  rintro L _
  exact (deep_l0 L 41 0 (by omega)).rounds
end Go.Proofs.Ytlahigmoljflkaa.Pure
