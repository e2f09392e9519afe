/- Each of the 256 bytes alone, with what may stand behind it, is the instruction that the page says, or none: computed, whatever the list is. -/
import Derived.Test.YtlahigmoljflkaaPAllx22
import Derived.Test.YtlahigmoljflkaaPAllx7
import Derived.Test.YtlahigmoljflkaaPAllx12
import Derived.Test.YtlahigmoljflkaaPAllx13
import Derived.Test.YtlahigmoljflkaaPAllx18
import Derived.Test.YtlahigmoljflkaaPAllx19
import Derived.Test.YtlahigmoljflkaaQCode
namespace Go.Proofs.Ytlahigmoljflkaa.Pure
open Go.RowKit Go.Proofs.Ytlahigmoljflkaa.PAll Go.Proofs.YtlahigmoljflkaaW.PrintWords Go.Proofs.YtlahigmoljflkaaW.PrintLast Go.Proofs.YtlahigmoljflkaaW.PrintMore Go.Proofs.YtlahigmoljflkaaU Go.Proofs.Ytlahigmoljflkaa.Q
set_option linter.unusedVariables false
/-- What stands behind. -/
def tails : List (List Int) := [[11], [64, 11, 11], [1, 11], [1, 2, 11], [0, 11], [1, 0, 11], [1, 2, 3, 11], [127, 65, 0, 11, 11]]
/-- One byte with one tail: both read the same. -/
def tried (op : Nat) (t : List Int) : Bool :=
  match code_Decode.f 40 ([(op : Int) % 256] ++ t), gangwayref5_Expr.f 40 ([(op : Int) % 256] ++ t) with
  | some d, some e => (decide (e.2 > 0) == (d.2.2 == 0)) && (d.2.1 == e.2) && (gangwayref0_EqInstrs.f 40 d.1 e.1 == some true)
  | _, _ => false
/-- One byte as an instruction: both ask the same. -/
def asked (op : Nat) : Bool :=
  match code_Check.f 40 [(⟨(op : Int), 0, 0, 0, 0, 0, [], [], []⟩ : S45)], gangwayref5_May.f 40 [(⟨(op : Int), 0, 0, 0, 0, 0, [], [], []⟩ : S45)] 40 with
  | some d, some e => (d == 0) == e
  | _, _ => false
theorem all_asked : (List.range 256).all asked = true := by decide +kernel
theorem all_tried : (List.range 256).all (fun op => tails.all (tried op)) = true := by decide +kernel
theorem tried_ev (op : Nat) (t : List Int) (h : tried op t = true) : ∃ (a b : List S45) (n e : Int), Ev (fun k => code_Decode.f k ([(op : Int) % 256] ++ t)) (a, n, e) ∧ Ev (fun k => gangwayref5_Expr.f k ([(op : Int) % 256] ++ t)) (b, n) ∧
    Ev (fun k => gangwayref0_EqInstrs.f k a b) true ∧ ((decide (n > 0)) != (e == 0)) = false := by
  unfold tried at h
  split at h
  · rename_i d e hd he
    rw [Bool.and_eq_true, Bool.and_eq_true] at h
    obtain ⟨⟨h1, h2⟩, h3⟩ := h
    have h2' := eq_of_beq h2
    have h3' := eq_of_beq h3
    refine ⟨d.1, e.1, d.2.1, d.2.2, Ev.of (fun k => code_Decode.mono _ k) hd, ?_, Ev.of (fun k => gangwayref0_EqInstrs.mono _ _ k) h3', ?_⟩
    · rw [h2']
      exact Ev.of (fun k => gangwayref5_Expr.mono _ k) he
    · rw [h2']
      have h1' := eq_of_beq h1
      rw [h1']
      simp
  · exact absurd h (by simp)
theorem asked_ev (op : Nat) (h : asked op = true) : ∃ (d : Int) (e : Bool), Ev (fun k => code_Check.f k [(⟨(op : Int), 0, 0, 0, 0, 0, [], [], []⟩ : S45)]) d ∧ Ev (fun k => gangwayref5_May.f k [(⟨(op : Int), 0, 0, 0, 0, 0, [], [], []⟩ : S45)] 40) e ∧ ((d == 0) != e) = false := by
  unfold asked at h
  split at h
  · rename_i d e hd he
    refine ⟨d, e, Ev.of (fun k => code_Check.mono _ k) hd, Ev.of (fun k => gangwayref5_May.mono _ _ k) he, ?_⟩
    rw [eq_of_beq h]
    simp
  · exact absurd h (by simp)
theorem tail_get (i : Nat) (h : i < tails.length) : rd_L5 tails (i : Int) = tails[i] := by
  unfold rd_L5
  rw [Int.toNat_natCast, List.getD_eq_getElem?_getD, List.getElem?_eq_getElem h]
  rfl
theorem tail_short : ∀ t ∈ tails, t.length < 100 := by decide
theorem bytes_l1 (L : List S26) (op : Nat) (hop : op < 256) (next : Ev (fun k => gangwaylaw5_CodeBytes.l0 k L tails ((op + 1 : Nat) : Int)) true) : ∀ (d i : Nat), i + d = tails.length → Ev (fun k => gangwaylaw5_CodeBytes.l1 k L tails (op : Int) (i : Int)) true := by
  intro d
  induction d with
  | zero =>
    intro i hi
    refine Ev.step (fun k => by rw [gangwaylaw5_CodeBytes.l1]) ?_
    refine Ev.ifn (by omega) ?_
    refine Ev.val rfl ?_
    obtain ⟨d, e, h1, h2, h3⟩ := asked_ev op (List.all_eq_true.1 all_asked op (List.mem_range.2 hop))
    refine Ev.bd h1 ?_
    refine Ev.val (v := d) rfl ?_
    refine Ev.bd h2 ?_
    refine Ev.ifn (by rw [h3]; decide) ?_
    rw [show wrap64 ((op : Int) + 1) = ((op + 1 : Nat) : Int) from by rw [w64 (by omega) (by omega)]; omega]
    exact next
  | succ d ih =>
    intro i hi
    have hlt : i < tails.length := by omega
    refine Ev.step (fun k => by rw [gangwaylaw5_CodeBytes.l1]) ?_
    refine Ev.ifp (by omega) ?_
    refine Ev.val rfl ?_
    rw [tail_get i hlt]
    have hs := tail_short _ (List.getElem_mem hlt)
    refine Ev.ifp (by omega) (Ev.ifp (by rw [List.length_singleton]; omega) ?_)
    refine Ev.val rfl ?_
    obtain ⟨a, b, n, e, h1, h2, h3, h4⟩ := tried_ev op _ (List.all_eq_true.1 (List.all_eq_true.1 all_tried op (List.mem_range.2 hop)) _ (List.getElem_mem hlt))
    refine Ev.bd h1 ?_
    refine Ev.bd h2 ?_
    refine Ev.val (v := e) rfl ?_
    refine Ev.ifn (by rw [h4]; decide) (Ev.ifp rfl ?_)
    refine Ev.bd h3 ?_
    refine Ev.ifp rfl ?_
    have hi8 : i < 8 := hlt
    rw [show wrap64 ((i : Int) + 1) = ((i + 1 : Nat) : Int) from by rw [w64 (by omega) (by omega)]; omega]
    exact ih (i + 1) (by omega)
theorem bytes_l0 (L : List S26) : ∀ (d op : Nat), op + d = 256 → Ev (fun k => gangwaylaw5_CodeBytes.l0 k L tails (op : Int)) true := by
  intro d
  induction d with
  | zero =>
    intro op hop
    refine Ev.step (fun k => by rw [gangwaylaw5_CodeBytes.l0]) ?_
    refine Ev.ifn (by omega) (Ev.ifp (by omega) ?_)
    exact Ev.bd wakes_ev (Ev.now _)
  | succ d ih =>
    intro op hop
    refine Ev.step (fun k => by rw [gangwaylaw5_CodeBytes.l0]) ?_
    refine Ev.ifp (by omega) ?_
    exact bytes_l1 L op (by omega) (ih (op + 1) (by omega)) tails.length 0 (by omega)
theorem CodeBytes : gangwaylaw5_CodeBytes.Pure := by
  rintro L _
  exact (bytes_l0 L 256 0 (by omega)).rounds
end Go.Proofs.Ytlahigmoljflkaa.Pure
