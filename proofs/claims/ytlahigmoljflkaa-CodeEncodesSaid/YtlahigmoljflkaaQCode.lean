import Derived.Test.YtlahigmoljflkaaPAllx1
import Derived.Test.YtlahigmoljflkaaPAllx0
import Derived.Test.YtlahigmoljflkaaPAllx15
import Derived.Test.YtlahigmoljflkaaPAllx18
import Derived.Test.YtlahigmoljflkaaPAllx3
import Derived.Test.YtlahigmoljflkaaPAllx8
import Derived.Test.YtlahigmoljflkaaPAllx16
import Derived.Test.YtlahigmoljflkaaPAllx19
import Derived.Test.YtlahigmoljflkaaEvs
/- What instructions may be: the program's answer and the reference's, told as one plain function. -/
namespace Go.Proofs.Ytlahigmoljflkaa.Q
open Go.RowKit Go.Proofs.Ytlahigmoljflkaa.PAll Go.Proofs.YtlahigmoljflkaaW.PrintWords Go.Proofs.YtlahigmoljflkaaW.PrintLast Go.Proofs.YtlahigmoljflkaaW.PrintMore Go.Proofs.YtlahigmoljflkaaU
set_option linter.unusedVariables false

/-- The kind of an instruction's byte. -/
def shp (o : Int) : Int :=
  if o = 2 ∨ o = 3 then 2 else if o = 4 then 3 else if o = 12 ∨ o = 13 ∨ o = 16 ∨ (32 ≤ o ∧ o ≤ 36) then 4 else if o = 14 then 5 else if o = 17 then 6
  else if o = 40 ∨ o = 41 ∨ (44 ≤ o ∧ o ≤ 55) ∨ (58 ≤ o ∧ o ≤ 62) then 7 else if o = 63 ∨ o = 64 then 8 else if o = 65 then 9 else if o = 66 then 10
  else if o = 0 ∨ o = 1 ∨ o = 15 ∨ o = 26 ∨ o = 27 ∨ (69 ≤ o ∧ o ≤ 90) ∨ (103 ≤ o ∧ o ≤ 138) ∨ o = 167 ∨ o = 172 ∨ o = 173 then 1 else 0
/-- The same, by the reference's numbers. -/
def shr5 (o : Int) : Int := if shp o ≤ 1 then shp o else if shp o = 3 then 2 else if shp o = 2 then 2 else shp o - 1

theorem shp_out {o : Int} (h : o < 0 ∨ 173 < o) : shp o = 0 := by
  unfold shp
  repeat rw [if_neg (by omega)]

theorem shp_range (o : Int) : 0 ≤ shp o := by
  unfold shp
  repeat' split
  all_goals decide
theorem shp_top (o : Int) : 0 ≤ shp o ∧ shp o ≤ 10 := by
  refine ⟨shp_range o, ?_⟩
  unfold shp
  repeat' split
  all_goals decide
theorem shape_in : (List.range 174).all (fun n => code_shape.f 5 (n : Int) == some (shp (n : Int))) = true := by decide +kernel
theorem shape5_in : (List.range 174).all (fun n => gangwayref5_shape.f 6 (n : Int) == some (shr5 (n : Int))) = true := by decide +kernel

theorem nat_of {o : Int} (h0 : 0 ≤ o) (h1 : o ≤ 173) : ∃ n : Nat, n ∈ List.range 174 ∧ (n : Int) = o := ⟨o.toNat, by rw [List.mem_range]; omega, by omega⟩

theorem shape_ev (o : Int) : Ev (fun k => code_shape.f k o) (shp o) := by
  refine Ev.of (fun k => code_shape.mono o k) (k := 5) ?_
  by_cases h : 0 ≤ o ∧ o ≤ 173
  · obtain ⟨n, hn, rfl⟩ := nat_of h.1 h.2
    exact eq_of_beq (List.all_eq_true.1 shape_in n hn)
  · rw [shp_out (by omega)]
    have e3 : (o == 3) = false := beq_eq_false_iff_ne.2 (by omega)
    have e64 : (o == 64) = false := beq_eq_false_iff_ne.2 (by omega)
    have f (b : Int) (c : o < 0 ∨ b < o) (d : ¬ (o < 0)) : decide (o ≤ b) = false := decide_eq_false (by omega)
    simp only [code_shape.f, code_shape.j0, code_shape.j1, code_shape.j2, code_shape.j3, e3, e64]
    rcases (by omega : o < 0 ∨ 173 < o) with h1 | h1
    · simp only [show ¬ (o = 2) from by omega, show ¬ (o = 4) from by omega, show ¬ (o = 12) from by omega, show ¬ (o = 13) from by omega, show ¬ (o = 16) from by omega, show ¬ (o ≥ 32) from by omega, show ¬ (o = 14) from by omega, show ¬ (o = 17) from by omega, show ¬ (o = 40) from by omega, show ¬ (o = 41) from by omega, show ¬ (o ≥ 44) from by omega, show ¬ (o ≥ 58) from by omega, show ¬ (o = 63) from by omega, show ¬ (o = 65) from by omega, show ¬ (o = 66) from by omega, show ¬ (o = 0) from by omega, show ¬ (o = 1) from by omega, show ¬ (o = 15) from by omega, show ¬ (o = 26) from by omega, show ¬ (o = 27) from by omega, show ¬ (o ≥ 69) from by omega, show ¬ (o ≥ 103) from by omega, show ¬ (o = 167) from by omega, show ¬ (o = 172) from by omega, show ¬ (o = 173) from by omega, if_false, if_true, Bool.false_eq_true]
    · have e36 : decide (o ≤ 36) = false := decide_eq_false (by omega)
      have e62 : decide (o ≤ 62) = false := decide_eq_false (by omega)
      simp only [e36, e62, show ¬ (o = 2) from by omega, show ¬ (o = 4) from by omega, show ¬ (o = 12) from by omega, show ¬ (o = 13) from by omega, show ¬ (o = 16) from by omega, show (o ≥ 32) from by omega, show ¬ (o = 14) from by omega, show ¬ (o = 17) from by omega, show ¬ (o = 40) from by omega, show ¬ (o = 41) from by omega, show (o ≥ 44) from by omega, show ¬ (o ≤ 55) from by omega, show (o ≥ 58) from by omega, show ¬ (o = 63) from by omega, show ¬ (o = 65) from by omega, show ¬ (o = 66) from by omega, show ¬ (o = 0) from by omega, show ¬ (o = 1) from by omega, show ¬ (o = 15) from by omega, show ¬ (o = 26) from by omega, show ¬ (o = 27) from by omega, show (o ≥ 69) from by omega, show ¬ (o ≤ 90) from by omega, show (o ≥ 103) from by omega, show ¬ (o ≤ 138) from by omega, show ¬ (o = 167) from by omega, show ¬ (o = 172) from by omega, show ¬ (o = 173) from by omega, if_false, if_true, Bool.false_eq_true]

theorem shape5_ev (o : Int) : Ev (fun k => gangwayref5_shape.f k o) (shr5 o) := by
  refine Ev.of (fun k => gangwayref5_shape.mono o k) (k := 6) ?_
  by_cases h : 0 ≤ o ∧ o ≤ 173
  · obtain ⟨n, hn, rfl⟩ := nat_of h.1 h.2
    exact eq_of_beq (List.all_eq_true.1 shape5_in n hn)
  · unfold shr5
    rw [shp_out (by omega)]
    have e27 : (o == 27) = false := beq_eq_false_iff_ne.2 (by omega)
    have e64 : (o == 64) = false := beq_eq_false_iff_ne.2 (by omega)
    simp only [gangwayref5_shape.f, gangwayref5_shape.j0, gangwayref5_shape.j1, gangwayref5_shape.j2, gangwayref5_shape.j3, gangwayref5_shape.j4, e27, e64]
    rcases (by omega : o < 0 ∨ 173 < o) with h1 | h1
    · simp only [show ¬ (o ≥ 2) from by omega, show ¬ (o = 12) from by omega, show ¬ (o = 13) from by omega, show ¬ (o = 16) from by omega, show ¬ (o ≥ 32) from by omega, show ¬ (o = 14) from by omega, show ¬ (o = 17) from by omega, show ¬ (o = 40) from by omega, show ¬ (o = 41) from by omega, show ¬ (o ≥ 44) from by omega, show ¬ (o ≥ 58) from by omega, show ¬ (o = 63) from by omega, show ¬ (o = 65) from by omega, show ¬ (o = 66) from by omega, show ¬ (o = 0) from by omega, show ¬ (o = 1) from by omega, show ¬ (o = 15) from by omega, show ¬ (o = 26) from by omega, show ¬ (o ≥ 69) from by omega, show ¬ (o ≥ 103) from by omega, show ¬ (o = 167) from by omega, show ¬ (o = 172) from by omega, show ¬ (o = 173) from by omega, if_false, if_true, Bool.false_eq_true]
      rfl
    · have e36 : decide (o ≤ 36) = false := decide_eq_false (by omega)
      have e62 : decide (o ≤ 62) = false := decide_eq_false (by omega)
      have e4 : decide (o ≤ 4) = false := decide_eq_false (by omega)
      simp only [e4, e36, e62, show (o ≥ 2) from by omega, show ¬ (o = 12) from by omega, show ¬ (o = 13) from by omega, show ¬ (o = 16) from by omega, show (o ≥ 32) from by omega, show ¬ (o = 14) from by omega, show ¬ (o = 17) from by omega, show ¬ (o = 40) from by omega, show ¬ (o = 41) from by omega, show (o ≥ 44) from by omega, show ¬ (o ≤ 55) from by omega, show (o ≥ 58) from by omega, show ¬ (o = 63) from by omega, show ¬ (o = 65) from by omega, show ¬ (o = 66) from by omega, show ¬ (o = 0) from by omega, show ¬ (o = 1) from by omega, show ¬ (o = 15) from by omega, show ¬ (o = 26) from by omega, show (o ≥ 69) from by omega, show ¬ (o ≤ 90) from by omega, show (o ≥ 103) from by omega, show ¬ (o ≤ 138) from by omega, show ¬ (o = 167) from by omega, show ¬ (o = 172) from by omega, show ¬ (o = 173) from by omega, if_false, if_true, Bool.false_eq_true]
      rfl

theorem beqd (a b : Int) : (a == b) = decide (a = b) := by rw [Bool.eq_iff_iff]; simp
/-- A number of 32 bits. -/
def W (n : Int) : Prop := 0 ≤ n ∧ n < 4294967296
instance (n : Int) : Decidable (W n) := inferInstanceAs (Decidable (_ ∧ _))
theorem word_val (a : Int) : code_word.f a = some (decide (W a)) := by
  unfold code_word.f W
  by_cases h : a ≥ 0
  · rw [if_pos h]
    congr 1
    exact decide_eq_decide.2 ⟨fun h' => ⟨h, h'⟩, fun h' => h'.2⟩
  · rw [if_neg h]
    congr 1
    exact (decide_eq_false (by omega)).symm
theorem in_val (a : Int) : gangwayref5_in.f a = some (decide (W a)) := by
  unfold gangwayref5_in.f W
  by_cases h : a ≥ 0
  · rw [if_pos h]
    congr 1
    exact decide_eq_decide.2 ⟨fun h' => ⟨h, h'⟩, fun h' => h'.2⟩
  · rw [if_neg h]
    congr 1
    exact (decide_eq_false (by omega)).symm
def T (t : Int) : Prop := t = 64 ∨ t = 127 ∨ t = 126
instance (n : Int) : Decidable (T n) := inferInstanceAs (Decidable (_ ∨ _))
theorem typ_val (a : Int) : code_typ.f a = some (decide (T a)) := by
  unfold code_typ.f T
  by_cases h : a = 64
  · rw [if_pos h]; congr 1; exact (decide_eq_true (Or.inl h)).symm
  · rw [if_neg h]
    by_cases h2 : a = 127
    · rw [if_pos h2]; congr 1; exact (decide_eq_true (Or.inr (Or.inl h2))).symm
    · rw [if_neg h2]; congr 1
      rw [beqd]
      exact decide_eq_decide.2 ⟨fun h' => Or.inr (Or.inr h'), fun h' => by omega⟩

/-- One instruction; rec: are these lists of instructions, one block deeper? -/
def mayB (rec : List S45 → Bool) (x : S45) : Bool :=
  if shp x.f0 = 2 ∨ shp x.f0 = 3 then decide (T x.f1 ∧ rec x.f7 = true ∧ (x.f0 = 4 → rec x.f8 = true) ∧ (x.f0 ≠ 4 → x.f8.length = 0) ∧ x.f2 = 0 ∧ x.f3 = 0 ∧ x.f4 = 0 ∧ x.f5 = 0 ∧ x.f6.length = 0)
  else if shp x.f0 = 4 ∨ shp x.f0 = 6 then decide (W x.f2 ∧ x.f1 = 0 ∧ x.f3 = 0 ∧ x.f4 = 0 ∧ x.f5 = 0 ∧ x.f6.length = 0 ∧ x.f7.length = 0 ∧ x.f8.length = 0)
  else if shp x.f0 = 5 then decide (W x.f2 ∧ (∀ n ∈ x.f6, W n) ∧ x.f1 = 0 ∧ x.f3 = 0 ∧ x.f4 = 0 ∧ x.f5 = 0 ∧ x.f7.length = 0 ∧ x.f8.length = 0)
  else if shp x.f0 = 7 then decide (W x.f3 ∧ W x.f4 ∧ x.f1 = 0 ∧ x.f2 = 0 ∧ x.f5 = 0 ∧ x.f6.length = 0 ∧ x.f7.length = 0 ∧ x.f8.length = 0)
  else if shp x.f0 = 9 then decide ((-2147483648 ≤ x.f5 ∧ x.f5 < 2147483648) ∧ x.f1 = 0 ∧ x.f2 = 0 ∧ x.f3 = 0 ∧ x.f4 = 0 ∧ x.f6.length = 0 ∧ x.f7.length = 0 ∧ x.f8.length = 0)
  else if shp x.f0 = 10 then decide (x.f1 = 0 ∧ x.f2 = 0 ∧ x.f3 = 0 ∧ x.f4 = 0 ∧ x.f6.length = 0 ∧ x.f7.length = 0 ∧ x.f8.length = 0)
  else if shp x.f0 = 1 ∨ shp x.f0 = 8 then decide (x.f1 = 0 ∧ x.f2 = 0 ∧ x.f3 = 0 ∧ x.f4 = 0 ∧ x.f5 = 0 ∧ x.f6.length = 0 ∧ x.f7.length = 0 ∧ x.f8.length = 0)
  else false
/-- An instruction; d blocks may still be opened. -/
def mayI : Nat → S45 → Bool
  | 0 => mayB (fun _ => false)
  | d + 1 => mayB (fun l => l.all (mayI d))

theorem j4_ev (ok : Bool) (c0 c1 c2 c3 c4 c5 b0 b1 b2 b3 b4 b5 : Int) (c6 b6 : List Int) (c7 c8 b7 b8 : List S45) (k : Nat) :
    code_all.q.j4 (k + 1) ok c0 c1 c2 c3 c4 c5 c6 c7 c8 b0 b1 b2 b3 b4 b5 b6 b7 b8 = some (decide (ok = true ∧ W c2 ∧ W c3 ∧ W c4 ∧ b1 = c1 ∧ b2 = c2 ∧ b3 = c3 ∧ b4 = c4 ∧ b5 = c5 ∧ b6.length = c6.length ∧ b7.length = c7.length ∧ b8.length = c8.length)) := by
  rw [code_all.q.j4]
  refine ite_dec fun h => ?_
  rw [word_val]
  refine bind_dec fun h => ?_
  rw [word_val]
  refine bind_dec fun h => ?_
  rw [word_val]
  refine bind_dec fun h => ?_
  refine ite_dec fun h => ?_
  refine ite_dec fun h => ?_
  refine ite_dec fun h => ?_
  refine ite_dec fun h => ?_
  refine ite_dec fun h => ?_
  have e (a b : Nat) : ((a : Int) = (b : Int)) = (a = b) := propext ⟨fun h => by omega, fun h => by omega⟩
  simp only [e]
  refine ite_dec fun h => ?_
  refine ite_dec fun h => ?_
  congr 1
  rw [beqd]
  simp only [e]

/-- The list of an instruction's labels holds a number that is no word. -/
theorem labels_idx (l : List Int) (hl : l.length ≤ 9223372036854775807) : ∀ (d j : Nat), j + d = l.length → ∀ k, d < k → ∃ r : Int, code_good_1_slices_IndexFunc.l0 k l (l.length : Int) (j : Int) = some r ∧ (decide (r ≥ 0) = !decide (∀ n ∈ l.drop j, W n)) := by
  intro d
  induction d with
  | zero =>
    intro j hj k hk
    obtain ⟨k, rfl⟩ : ∃ m, k = m + 1 := ⟨k - 1, by omega⟩
    refine ⟨-1, ?_, ?_⟩
    · simp only [code_good_1_slices_IndexFunc.l0]
      rw [if_neg (by omega)]
    · rw [List.drop_eq_nil_of_le (by omega)]
      simp
  | succ d ih =>
    intro j hj k hk
    obtain ⟨k, rfl⟩ : ∃ m, k = m + 1 := ⟨k - 1, by omega⟩
    have e3 : wrap64 ((j : Int) + 1) = ((j + 1 : Nat) : Int) := by rw [w64 (by omega) (by omega)]; omega
    have hg : rd l (j : Int) = l[j]'(by omega) := by rw [rd_nat, List.getD_eq_getElem?_getD, List.getElem?_eq_getElem (by omega)]; rfl
    have hd : l.drop j = l[j]'(by omega) :: l.drop (j + 1) := List.drop_eq_getElem_cons (by omega)
    simp only [code_good_1_slices_IndexFunc.l0]
    rw [if_pos (by omega), if_pos (by omega), if_pos (by omega), hg, code_good_1.f, word_val]
    simp only [Option.bind_some]
    by_cases hw : W (l[j]'(by omega))
    · rw [decide_eq_true hw]
      obtain ⟨r, h1, h2⟩ := ih (j + 1) (by omega) k (by omega)
      refine ⟨r, ?_, ?_⟩
      · rw [if_neg (by decide), e3]
        exact h1
      · rw [h2, hd]
        congr 1
        exact decide_eq_decide.2 ⟨fun h n hn => by rcases List.mem_cons.1 hn with rfl | hn; exact hw; exact h n hn, fun h n hn => h n (List.mem_cons_of_mem _ hn)⟩
    · rw [decide_eq_false hw]
      refine ⟨(j : Int), ?_, ?_⟩
      · rw [if_pos (by decide)]
      · rw [decide_eq_true (by omega), hd, decide_eq_false (fun h => hw (h _ (List.mem_cons_self ..)))]
        rfl
theorem labels_ev (l : List Int) (hl : l.length ≤ 9223372036854775807) : Ev (fun k => code_good_1_slices_ContainsFunc.f k l) (!decide (∀ n ∈ l, W n)) := by
  refine Ev.big (l.length + 1) fun k hk => ?_
  obtain ⟨r, h1, h2⟩ := labels_idx l hl l.length 0 (by omega) k (by omega)
  unfold code_good_1_slices_ContainsFunc.f code_good_1_slices_IndexFunc.f
  have h3 : code_good_1_slices_IndexFunc.l0 k l (l.length : Int) 0 = some r := h1
  rw [h3]
  simp only [Option.bind_some]
  rw [h2, List.drop_zero]

theorem Ev.to {α : Type} {g : Nat → Option α} {r r' : α} (h : Ev g r) (e : r = r') : Ev g r' := e ▸ h
theorem dd {p q : Prop} [Decidable p] [Decidable q] (h : p ↔ q) : decide p = decide q := decide_eq_decide.2 h
theorem j4E (ok : Bool) (c0 c1 c2 c3 c4 c5 b0 b1 b2 b3 b4 b5 : Int) (c6 b6 : List Int) (c7 c8 b7 b8 : List S45) {r : Bool}
    (e : decide (ok = true ∧ W c2 ∧ W c3 ∧ W c4 ∧ b1 = c1 ∧ b2 = c2 ∧ b3 = c3 ∧ b4 = c4 ∧ b5 = c5 ∧ b6.length = c6.length ∧ b7.length = c7.length ∧ b8.length = c8.length) = r) :
    Ev (fun k => code_all.q.j4 k ok c0 c1 c2 c3 c4 c5 c6 c7 c8 b0 b1 b2 b3 b4 b5 b6 b7 b8) r :=
  Ev.step (f := fun _ => some r) (fun k => by rw [j4_ev, e]) (Ev.now r)
theorem W0 : W 0 := ⟨by decide, by decide⟩
theorem wrap3264 (v : Int) (h : -9223372036854775808 ≤ v ∧ v ≤ 9223372036854775807) : (v == wrap64 (wrap32 v)) = decide (-2147483648 ≤ v ∧ v < 2147483648) := by
  rw [beqd]
  refine dd ?_
  unfold wrap32 wrap64
  constructor <;> intro h' <;> omega

/-- An instruction, by the program. -/
theorem good_ev (x : S45) (dp : Int) (rec : List S45 → Bool) (hl : x.f6.length ≤ 9223372036854775807) (hv : -9223372036854775808 ≤ x.f5 ∧ x.f5 ≤ 9223372036854775807)
    (h7 : dp < 40 → Ev (fun k => code_all.f k x.f7 (wrap64 (dp + 1))) (rec x.f7)) (h8 : dp < 40 → Ev (fun k => code_all.f k x.f8 (wrap64 (dp + 1))) (rec x.f8)) :
    Ev (fun k => code_all.q.f k x.f0 x.f1 x.f2 x.f3 x.f4 x.f5 x.f6 x.f7 x.f8 dp) (mayB (fun l => decide (dp < 40) && rec l) x) := by
  refine Ev.step (fun k => by rw [code_all.q.f]) ?_
  refine Ev.bd (shape_ev x.f0) ?_
  unfold mayB
  generalize shp x.f0 = s
  by_cases hb : s = 2 ∨ s = 3
  · rw [if_pos hb]
    refine Ev.ifn (by omega) ?_
    refine Ev.step (fun k => by rw [code_all.q.j0]) (Ev.ifn (by rw [beqd]; simp; omega) ?_)
    have key : Ev (fun k => code_all.q.j1 k dp true s true x.f0 x.f1 x.f2 x.f3 x.f4 x.f5 x.f6 x.f7 x.f8 x.f0 0 0 0 0 0)
        (decide (T x.f1 ∧ (decide (dp < 40) && rec x.f7) = true ∧ (x.f0 = 4 → (decide (dp < 40) && rec x.f8) = true) ∧ (x.f0 ≠ 4 → x.f8.length = 0) ∧ x.f2 = 0 ∧ x.f3 = 0 ∧ x.f4 = 0 ∧ x.f5 = 0 ∧ x.f6.length = 0)) := by
      refine Ev.step (fun k => by rw [code_all.q.j1]) (Ev.ifp rfl (Ev.val (typ_val x.f1) ?_))
      -- what follows, by what is known so far
      have rest : ∀ (ok : Bool), (ok = true ↔ T x.f1 ∧ (decide (dp < 40) && rec x.f7) = true) → Ev (fun k => code_all.q.j2 k dp ok x.f0 x.f1 x.f2 x.f3 x.f4 x.f5 x.f6 x.f7 x.f8 x.f0 x.f1 0 0 0 0 x.f7)
          (decide (T x.f1 ∧ (decide (dp < 40) && rec x.f7) = true ∧ (x.f0 = 4 → (decide (dp < 40) && rec x.f8) = true) ∧ (x.f0 ≠ 4 → x.f8.length = 0) ∧ x.f2 = 0 ∧ x.f3 = 0 ∧ x.f4 = 0 ∧ x.f5 = 0 ∧ x.f6.length = 0)) := by
        intro ok hok
        refine Ev.step (fun k => by rw [code_all.q.j2]) ?_
        by_cases h4 : x.f0 = 4
        · refine Ev.ifp h4 ?_
          by_cases hk : ok = true
          · have hk2 := hok.1 hk
            have hdp : dp < 40 := by
              have := hk2.2
              simp only [Bool.and_eq_true, decide_eq_true_eq] at this
              exact this.1
            refine Ev.ifp hk (Ev.bd (h8 hdp) (j4E _ _ _ _ _ _ _ _ _ _ _ _ _ _ _ _ _ _ _ (dd ?_)))
            constructor
            · rintro ⟨h1, h2, h3, h4', h5, h6, h7', h8', h9, h10, h11, h12⟩
              exact ⟨hk2.1, hk2.2, fun _ => by rw [h1, decide_eq_true hdp]; rfl, fun h => absurd h4 h, by omega, by omega, by omega, by omega, h10.symm⟩
            · rintro ⟨h1, h2, h3, h4', h5, h6, h7', h8', h9⟩
              have h3' := h3 h4
              rw [decide_eq_true hdp, Bool.true_and] at h3'
              exact ⟨h3', by rw [h5]; exact W0, by rw [h6]; exact W0, by rw [h7']; exact W0, rfl, h5.symm, h6.symm, h7'.symm, h8'.symm, by rw [h9]; rfl, rfl, rfl⟩
          · refine Ev.ifn hk (j4E _ _ _ _ _ _ _ _ _ _ _ _ _ _ _ _ _ _ _ (dd ?_))
            constructor
            · rintro ⟨h1, _⟩
              exact absurd h1 (by decide)
            · rintro ⟨h1, h2, _⟩
              exact absurd (hok.2 ⟨h1, h2⟩) hk
        · refine Ev.ifn h4 (j4E _ _ _ _ _ _ _ _ _ _ _ _ _ _ _ _ _ _ _ (dd ?_))
          constructor
          · rintro ⟨h1, h2, h3, h4', h5, h6, h7', h8', h9, h10, h11, h12⟩
            exact ⟨(hok.1 h1).1, (hok.1 h1).2, fun h => absurd h h4, fun _ => h12.symm, by omega, by omega, by omega, by omega, h10.symm⟩
          · rintro ⟨h1, h2, h3, h4', h5, h6, h7', h8', h9⟩
            exact ⟨hok.2 ⟨h1, h2⟩, by rw [h5]; exact W0, by rw [h6]; exact W0, by rw [h7']; exact W0, rfl, h5.symm, h6.symm, h7'.symm, h8'.symm, by rw [h9]; rfl, rfl, by rw [h4' h4]; rfl⟩
      by_cases ht : T x.f1
      · refine Ev.ifp (decide_eq_true ht) ?_
        by_cases hd : dp < 40
        · refine Ev.ifp hd (Ev.bd (h7 hd) (rest _ ?_))
          rw [decide_eq_true hd, Bool.true_and]
          exact ⟨fun h => ⟨ht, h⟩, fun h => h.2⟩
        · refine Ev.ifn hd (rest _ ?_)
          rw [decide_eq_false hd]
          exact ⟨fun h => absurd h (by decide), fun h => absurd h.2 (by simp)⟩
      · refine Ev.ifn (by rw [decide_eq_false ht]; decide) (rest _ ?_)
        exact ⟨fun h => absurd h (by decide), fun h => absurd h.1 ht⟩
    rcases hb with rfl | rfl
    · exact Ev.ifp rfl key
    · exact Ev.ifn (by decide) key
  · rw [if_neg hb]
    -- from the second test on
    have tail : (s ≠ 1 ∧ s ≠ 8) → Ev (fun k => code_all.q.j0 k dp true s false x.f0 x.f1 x.f2 x.f3 x.f4 x.f5 x.f6 x.f7 x.f8 x.f0 0 0 0 0 0)
        (if s = 4 ∨ s = 6 then decide (W x.f2 ∧ x.f1 = 0 ∧ x.f3 = 0 ∧ x.f4 = 0 ∧ x.f5 = 0 ∧ x.f6.length = 0 ∧ x.f7.length = 0 ∧ x.f8.length = 0)
          else if s = 5 then decide (W x.f2 ∧ (∀ n ∈ x.f6, W n) ∧ x.f1 = 0 ∧ x.f3 = 0 ∧ x.f4 = 0 ∧ x.f5 = 0 ∧ x.f7.length = 0 ∧ x.f8.length = 0)
          else if s = 7 then decide (W x.f3 ∧ W x.f4 ∧ x.f1 = 0 ∧ x.f2 = 0 ∧ x.f5 = 0 ∧ x.f6.length = 0 ∧ x.f7.length = 0 ∧ x.f8.length = 0)
          else if s = 9 then decide ((-2147483648 ≤ x.f5 ∧ x.f5 < 2147483648) ∧ x.f1 = 0 ∧ x.f2 = 0 ∧ x.f3 = 0 ∧ x.f4 = 0 ∧ x.f6.length = 0 ∧ x.f7.length = 0 ∧ x.f8.length = 0)
          else if s = 10 then decide (x.f1 = 0 ∧ x.f2 = 0 ∧ x.f3 = 0 ∧ x.f4 = 0 ∧ x.f6.length = 0 ∧ x.f7.length = 0 ∧ x.f8.length = 0)
          else false) := by
      intro hs
      refine Ev.step (fun k => by rw [code_all.q.j0]) (Ev.ifn (by decide) (Ev.ifn (by omega) ?_))
      rw [show (s == 3) = false from by rw [beqd]; exact decide_eq_false (by omega)]
      refine Ev.step (fun k => by rw [code_all.q.j1]) (Ev.ifn (by decide) ?_)
      have four : Ev (fun k => code_all.q.j3 k true s true x.f0 x.f1 x.f2 x.f3 x.f4 x.f5 x.f6 x.f7 x.f8 x.f0 0 0 0 0 0) (decide (W x.f2 ∧ x.f1 = 0 ∧ x.f3 = 0 ∧ x.f4 = 0 ∧ x.f5 = 0 ∧ x.f6.length = 0 ∧ x.f7.length = 0 ∧ x.f8.length = 0)) := by
        refine Ev.step (fun k => by rw [code_all.q.j3]) (Ev.ifp rfl (j4E _ _ _ _ _ _ _ _ _ _ _ _ _ _ _ _ _ _ _ (dd ?_)))
        constructor
        · rintro ⟨h1, h2, h3, h4', h5, h6, h7', h8', h9, h10, h11, h12⟩
          exact ⟨h2, h5.symm, h7'.symm, h8'.symm, h9.symm, h10.symm, h11.symm, h12.symm⟩
        · rintro ⟨h1, h2, h3, h4', h5, h6, h7', h8'⟩
          exact ⟨rfl, h1, by rw [h3]; exact W0, by rw [h4']; exact W0, h2.symm, rfl, h3.symm, h4'.symm, h5.symm, by rw [h6]; rfl, by rw [h7']; rfl, by rw [h8']; rfl⟩
      by_cases h4 : s = 4
      · subst h4
        exact Ev.ifp rfl (Ev.to four (by rw [if_pos (Or.inl rfl)]))
      refine Ev.ifn h4 ?_
      by_cases h6 : s = 6
      · subst h6
        exact Ev.to four (by rw [if_pos (Or.inr rfl)])
      rw [if_neg (by omega), show (s == 6) = false from by rw [beqd]; exact decide_eq_false h6]
      refine Ev.step (fun k => by rw [code_all.q.j3]) (Ev.ifn (by decide) ?_)
      by_cases h5 : s = 5
      · subst h5
        rw [if_pos rfl]
        refine Ev.ifp rfl (Ev.bd (labels_ev x.f6 hl) (j4E _ _ _ _ _ _ _ _ _ _ _ _ _ _ _ _ _ _ _ (dd ?_)))
        rw [Bool.not_not, decide_eq_true_eq]
        constructor
        · rintro ⟨h1, h2, h3, h4', h5, h6, h7', h8', h9, h10, h11, h12⟩
          exact ⟨h2, h1, h5.symm, h7'.symm, h8'.symm, h9.symm, h11.symm, h12.symm⟩
        · rintro ⟨h1, h1', h2, h3, h4', h5, h7', h8'⟩
          exact ⟨h1', h1, by rw [h3]; exact W0, by rw [h4']; exact W0, h2.symm, rfl, h3.symm, h4'.symm, h5.symm, rfl, by rw [h7']; rfl, by rw [h8']; rfl⟩
      rw [if_neg h5]
      refine Ev.ifn h5 ?_
      by_cases h7s : s = 7
      · subst h7s
        rw [if_pos rfl]
        refine Ev.ifp rfl (j4E _ _ _ _ _ _ _ _ _ _ _ _ _ _ _ _ _ _ _ (dd ?_))
        constructor
        · rintro ⟨h1, h2, h3, h4', h5, h6, h7', h8', h9, h10, h11, h12⟩
          exact ⟨h3, h4', h5.symm, h6.symm, h9.symm, h10.symm, h11.symm, h12.symm⟩
        · rintro ⟨h1, h1', h2, h3, h4', h5, h7', h8'⟩
          exact ⟨rfl, by rw [h3]; exact W0, h1, h1', h2.symm, h3.symm, rfl, rfl, h4'.symm, by rw [h5]; rfl, by rw [h7']; rfl, by rw [h8']; rfl⟩
      rw [if_neg h7s]
      refine Ev.ifn h7s ?_
      by_cases h9s : s = 9
      · subst h9s
        rw [if_pos rfl]
        refine Ev.ifp rfl (j4E _ _ _ _ _ _ _ _ _ _ _ _ _ _ _ _ _ _ _ (dd ?_))
        rw [wrap3264 _ hv, decide_eq_true_eq]
        constructor
        · rintro ⟨h1, h2, h3, h4', h5, h6, h7', h8', h9, h10, h11, h12⟩
          exact ⟨h1, h5.symm, h6.symm, h7'.symm, h8'.symm, h10.symm, h11.symm, h12.symm⟩
        · rintro ⟨h1, h1', h2, h3, h4', h5, h7', h8'⟩
          exact ⟨h1, by rw [h2]; exact W0, by rw [h3]; exact W0, by rw [h4']; exact W0, h1'.symm, h2.symm, h3.symm, h4'.symm, rfl, by rw [h5]; rfl, by rw [h7']; rfl, by rw [h8']; rfl⟩
      rw [if_neg h9s]
      refine Ev.ifn h9s ?_
      by_cases h10s : s = 10
      · subst h10s
        rw [if_pos rfl]
        refine Ev.ifp rfl (j4E _ _ _ _ _ _ _ _ _ _ _ _ _ _ _ _ _ _ _ (dd ?_))
        constructor
        · rintro ⟨h1, h2, h3, h4', h5, h6, h7', h8', h9, h10, h11, h12⟩
          exact ⟨h5.symm, h6.symm, h7'.symm, h8'.symm, h10.symm, h11.symm, h12.symm⟩
        · rintro ⟨h1', h2, h3, h4', h5, h7', h8'⟩
          exact ⟨rfl, by rw [h2]; exact W0, by rw [h3]; exact W0, by rw [h4']; exact W0, h1'.symm, h2.symm, h3.symm, h4'.symm, rfl, by rw [h5]; rfl, by rw [h7']; rfl, by rw [h8']; rfl⟩
      rw [if_neg h10s]
      exact Ev.ifn h10s (Ev.now _)
    have plain : Ev (fun k => code_all.q.j0 k dp true s true x.f0 x.f1 x.f2 x.f3 x.f4 x.f5 x.f6 x.f7 x.f8 x.f0 0 0 0 0 0) (decide (x.f1 = 0 ∧ x.f2 = 0 ∧ x.f3 = 0 ∧ x.f4 = 0 ∧ x.f5 = 0 ∧ x.f6.length = 0 ∧ x.f7.length = 0 ∧ x.f8.length = 0)) := by
      refine Ev.step (fun k => by rw [code_all.q.j0]) (Ev.ifp rfl (j4E _ _ _ _ _ _ _ _ _ _ _ _ _ _ _ _ _ _ _ (dd ?_)))
      constructor
      · rintro ⟨h1, h2, h3, h4', h5, h6, h7', h8', h9, h10, h11, h12⟩
        exact ⟨h5.symm, h6.symm, h7'.symm, h8'.symm, h9.symm, h10.symm, h11.symm, h12.symm⟩
      · rintro ⟨h1', h2, h3, h4', h4'', h5, h7', h8'⟩
        exact ⟨rfl, by rw [h2]; exact W0, by rw [h3]; exact W0, by rw [h4']; exact W0, h1'.symm, h2.symm, h3.symm, h4'.symm, h4''.symm, by rw [h5]; rfl, by rw [h7']; rfl, by rw [h8']; rfl⟩
    by_cases h1 : s = 1
    · subst h1
      refine Ev.ifp rfl (Ev.to plain ?_)
      rw [if_neg (by omega), if_neg (by omega), if_neg (by omega), if_neg (by omega), if_neg (by omega), if_pos (Or.inl rfl)]
    refine Ev.ifn h1 ?_
    by_cases h8s : s = 8
    · subst h8s
      refine Ev.to plain ?_
      rw [if_neg (by omega), if_neg (by omega), if_neg (by omega), if_neg (by omega), if_neg (by omega), if_pos (Or.inr rfl)]
    rw [show (s == 8) = false from by rw [beqd]; exact decide_eq_false h8s]
    refine Ev.to (tail ⟨h1, h8s⟩) ?_
    rw [if_neg (c := s = 1 ∨ s = 8) (by omega)]

theorem okT_open {x : S45} (h : okT45 x) : (-9223372036854775808 ≤ x.f5 ∧ x.f5 ≤ 9223372036854775807) ∧ x.f6.length ≤ 9223372036854775807 ∧ (x.f7.length ≤ 9223372036854775807 ∧ ∀ y ∈ x.f7, okT45 y) ∧ (x.f8.length ≤ 9223372036854775807 ∧ ∀ y ∈ x.f8, okT45 y) := by
  obtain ⟨n, h⟩ := h
  cases n with
  | zero => exact h.elim
  | succ n =>
    obtain ⟨_, _, _, _, _, h5, ⟨h6, _⟩, ⟨h7, h7'⟩, ⟨h8, h8'⟩⟩ := h
    exact ⟨bd64 h5, by omega, ⟨by omega, fun y hy => ⟨n, h7' y hy⟩⟩, ⟨by omega, fun y hy => ⟨n, h8' y hy⟩⟩⟩
theorem rdT_nat (l : List S45) (j : Nat) (h : j < l.length) : rd_T45 l (j : Int) = l[j] := by
  unfold rd_T45
  rw [Int.toNat_natCast, List.getD_eq_getElem?_getD, List.getElem?_eq_getElem h]
  rfl
/-- Instructions from the j-th one on, by the program. -/
theorem idx_ev (l : List S45) (hl : l.length ≤ 9223372036854775807) (dp : Int) (q : S45 → Bool) (hq : ∀ y ∈ l, Ev (fun k => code_all.q.f k y.f0 y.f1 y.f2 y.f3 y.f4 y.f5 y.f6 y.f7 y.f8 dp) (q y)) :
    ∀ (d j : Nat), j + d = l.length → ∃ r : Int, Ev (fun k => code_all.q2.l0 k l (l.length : Int) (j : Int) dp) r ∧ decide (r ≥ 0) = !(l.drop j).all q := by
  intro d
  induction d with
  | zero =>
    intro j hj
    refine ⟨-1, Ev.step (fun k => by rw [code_all.q2.l0]) (Ev.ifn (by omega) (Ev.now _)), ?_⟩
    rw [List.drop_eq_nil_of_le (by omega)]
    rfl
  | succ d ih =>
    intro j hj
    have e3 : wrap64 ((j : Int) + 1) = ((j + 1 : Nat) : Int) := by rw [w64 (by omega) (by omega)]; omega
    have hg := rdT_nat l j (by omega)
    have hd : l.drop j = l[j]'(by omega) :: l.drop (j + 1) := List.drop_eq_getElem_cons (by omega)
    have h1 : Ev (fun k => code_all.q1.f k (rd_T45 l j).f0 (rd_T45 l j).f1 (rd_T45 l j).f2 (rd_T45 l j).f3 (rd_T45 l j).f4 (rd_T45 l j).f5 (rd_T45 l j).f6 (rd_T45 l j).f7 (rd_T45 l j).f8 dp) (!q (l[j]'(by omega))) := by
      rw [hg]
      refine Ev.step (fun k => by rw [code_all.q1.f]) ?_
      exact Ev.bd (hq _ (List.getElem_mem _)) (Ev.now _)
    by_cases hc : q (l[j]'(by omega)) = true
    · obtain ⟨r, h2, h3⟩ := ih (j + 1) (by omega)
      refine ⟨r, ?_, ?_⟩
      · refine Ev.step (fun k => by rw [code_all.q2.l0]) ?_
        refine Ev.ifp (by omega) (Ev.ifp (by omega) (Ev.ifp (by omega) ?_))
        refine Ev.bd h1 ?_
        refine Ev.ifn (by rw [hc]; decide) ?_
        rw [e3]
        exact h2
      · rw [h3, hd, List.all_cons, hc, Bool.true_and]
    · refine ⟨(j : Int), ?_, ?_⟩
      · refine Ev.step (fun k => by rw [code_all.q2.l0]) ?_
        refine Ev.ifp (by omega) (Ev.ifp (by omega) (Ev.ifp (by omega) ?_))
        refine Ev.bd h1 ?_
        refine Ev.ifp (by rw [Bool.eq_false_iff.mpr hc]; rfl) ?_
        exact Ev.now _
      rw [decide_eq_true (by omega), hd, List.all_cons, Bool.eq_false_iff.mpr hc]
      rfl
theorem allq_ev (l : List S45) (hl : l.length ≤ 9223372036854775807) (dp : Int) (q : S45 → Bool) (hq : ∀ y ∈ l, Ev (fun k => code_all.q.f k y.f0 y.f1 y.f2 y.f3 y.f4 y.f5 y.f6 y.f7 y.f8 dp) (q y)) :
    Ev (fun k => code_all.f k l dp) (l.all q) := by
  obtain ⟨r, h1, h2⟩ := idx_ev l hl dp q hq l.length 0 (by omega)
  have h3 : Ev (fun k => code_all.q2.f k l dp) r := by
    refine Ev.step (fun k => by rw [code_all.q2.f]) ?_
    exact h1
  have h4 : Ev (fun k => code_all.q3.f k l dp) (decide (r ≥ 0)) := by
    refine Ev.step (fun k => by rw [code_all.q3.f]) ?_
    exact Ev.bd h3 (Ev.now _)
  have h5 : Ev (fun k => code_all.f k l dp) (!decide (r ≥ 0)) := by
    refine Ev.step (fun k => by rw [code_all.f]) ?_
    exact Ev.bd h4 (Ev.now _)
  refine Ev.to h5 ?_
  rw [h2, Bool.not_not, List.drop_zero]
/-- Instructions, by the program; d blocks may still be opened. -/
theorem all_ev : ∀ (d : Nat), d ≤ 40 → ∀ (l : List S45), l.length ≤ 9223372036854775807 → (∀ y ∈ l, okT45 y) → Ev (fun k => code_all.f k l (40 - (d : Int))) (l.all (mayI d)) := by
  intro d
  induction d with
  | zero =>
    intro _ l hl hok
    refine allq_ev l hl _ _ fun y hy => ?_
    obtain ⟨hv, h6, h7, h8⟩ := okT_open (hok y hy)
    refine Ev.to (good_ev y _ (fun _ => true) h6 hv (fun h => absurd h (by omega)) (fun h => absurd h (by omega))) ?_
    unfold mayI
    congr 1
  | succ d ih =>
    intro hd l hl hok
    refine allq_ev l hl _ _ fun y hy => ?_
    obtain ⟨hv, h6, h7, h8⟩ := okT_open (hok y hy)
    have e : wrap64 (40 - ((d + 1 : Nat) : Int) + 1) = 40 - (d : Int) := by rw [w64 (by omega) (by omega)]; omega
    refine Ev.to (good_ev y _ (fun l => l.all (mayI d)) h6 hv (fun h => by rw [e]; exact ih (by omega) _ h7.1 h7.2) (fun h => by rw [e]; exact ih (by omega) _ h8.1 h8.2)) ?_
    show _ = mayB (fun l => l.all (mayI d)) y
    congr 1
    funext l
    rw [decide_eq_true (by omega), Bool.true_and]
theorem check_ev (l : List S45) (hl : l.length ≤ 9223372036854775807) (hok : ∀ y ∈ l, okT45 y) : Ev (fun k => code_Check.f k l) (if l.all (mayI 40) = true then 0 else 100) := by
  have h := all_ev 40 (by omega) l hl hok
  refine Ev.bd h ?_
  by_cases hc : l.all (mayI 40) = true
  · exact Ev.to (Ev.ifp hc (Ev.now _)) (if_pos hc).symm
  · exact Ev.to (Ev.ifn hc (Ev.now _)) (if_neg hc).symm

theorem shr_cases (o : Int) : (shr5 o = 0 ↔ shp o = 0) ∧ (shr5 o = 1 ↔ shp o = 1) ∧ (shr5 o = 2 ↔ shp o = 2 ∨ shp o = 3) ∧ (shr5 o = 3 ↔ shp o = 4) ∧ (shr5 o = 4 ↔ shp o = 5) ∧ (shr5 o = 5 ↔ shp o = 6) ∧ (shr5 o = 6 ↔ shp o = 7) ∧ (shr5 o = 7 ↔ shp o = 8) ∧ (shr5 o = 8 ↔ shp o = 9) ∧ (shr5 o = 9 ↔ shp o = 10) := by
  unfold shr5
  by_cases h1 : shp o ≤ 1
  · rw [if_pos h1]
    have : shp o = 0 ∨ shp o = 1 := by
      have := shp_range o
      omega
    omega
  · rw [if_neg h1]
    by_cases h2 : shp o = 3
    · rw [if_pos h2]; omega
    · rw [if_neg h2]
      by_cases h3 : shp o = 2
      · rw [if_pos h3]; omega
      · rw [if_neg h3]; omega
theorem lenE (a b : Nat) : ((a : Int) = (b : Int)) = (a = b) := propext ⟨fun h => by omega, fun h => by omega⟩

theorem ev_and {p q : Prop} [Decidable p] [Decidable q] {A B : Nat → Option Bool} (h : Ev A (decide q)) (h0 : Ev B false) : Ev (fun k => if p then A k else B k) (decide (p ∧ q)) := by
  by_cases hp : p
  · exact Ev.ifp hp (by simpa [hp] using h)
  · exact Ev.ifn hp (by simpa [hp] using h0)
theorem t11 (b : Bool) : Ev (fun k => gangwayref5_May.q.j11 k b) b := Ev.step (fun k => by rw [gangwayref5_May.q.j11]) (Ev.now _)
theorem t10 (ok : Bool) (c0 c1 c2 c3 c4 c5 : Int) (l : List Int) (x7 x8 : List S45) (b0 b1 b2 b3 b4 b5 : Int) (l6 : List Int) (y7 y8 : List S45) : Ev (fun k => gangwayref5_May.q.j10 k ok c0 c1 c2 c3 c4 c5 l x7 x8 b0 b1 b2 b3 b4 b5 l6 y7 y8) (decide (ok = true ∧ c0 = b0 ∧ c1 = b1 ∧ c2 = b2 ∧ c3 = b3 ∧ c4 = b4 ∧ c5 = b5 ∧ l.length = l6.length ∧ x7.length = y7.length ∧ x8.length = y8.length)) := by
  refine Ev.step (fun k => by rw [gangwayref5_May.q.j10]) ?_
  simp only [lenE]
  refine ev_and (ev_and (ev_and (ev_and (ev_and (ev_and (ev_and (ev_and (ev_and ?_ (t11 _)) (t11 _)) (t11 _)) (t11 _)) (t11 _)) (t11 _)) (t11 _)) (t11 _)) (t11 _)
  refine Ev.to (t11 _) ?_
  rw [beqd]
  simp only [lenE]
theorem t1 (ok : Bool) (c0 c1 c2 c3 c4 c5 : Int) (l : List Int) (x7 x8 : List S45) (b0 b1 b2 b3 b4 b5 : Int) (y7 y8 : List S45) : Ev (fun k => gangwayref5_May.q.j1 k ok c0 c1 c2 c3 c4 c5 l x7 x8 b0 b1 b2 b3 b4 b5 y7 y8) (decide (ok = true ∧ c0 = b0 ∧ c1 = b1 ∧ c2 = b2 ∧ c3 = b3 ∧ c4 = b4 ∧ c5 = b5 ∧ l.length = ([] : List Int).length ∧ x7.length = y7.length ∧ x8.length = y8.length)) := Ev.step (fun k => by rw [gangwayref5_May.q.j1]) (t10 _ _ _ _ _ _ _ _ _ _ _ _ _ _ _ _ _ _ _)
theorem t9 (ok : Bool) (c0 c1 c2 c3 c4 c5 : Int) (l : List Int) (x7 x8 : List S45) (b0 b1 b2 b3 b4 b5 : Int) (l6 : List Int) : Ev (fun k => gangwayref5_May.q.j9 k ok c0 c1 c2 c3 c4 c5 l x7 x8 b0 b1 b2 b3 b4 b5 l6) (decide (ok = true ∧ c0 = b0 ∧ c1 = b1 ∧ c2 = b2 ∧ c3 = b3 ∧ c4 = b4 ∧ c5 = b5 ∧ l.length = l6.length ∧ x7.length = ([] : List S45).length ∧ x8.length = ([] : List S45).length)) := Ev.step (fun k => by rw [gangwayref5_May.q.j9]) (t10 _ _ _ _ _ _ _ _ _ _ _ _ _ _ _ _ _ _ _)
theorem t8 (ok : Bool) (c0 c1 c2 c3 c4 c5 : Int) (l : List Int) (x7 x8 : List S45) (b0 b1 b2 b3 b4 b5 : Int) (l6 : List Int) : Ev (fun k => gangwayref5_May.q.j8 k ok c0 c1 c2 c3 c4 c5 l x7 x8 b0 b1 b2 b3 b4 b5 l6) (decide (ok = true ∧ c0 = b0 ∧ c1 = b1 ∧ c2 = b2 ∧ c3 = b3 ∧ c4 = b4 ∧ c5 = b5 ∧ l.length = l6.length ∧ x7.length = ([] : List S45).length ∧ x8.length = ([] : List S45).length)) := Ev.step (fun k => by rw [gangwayref5_May.q.j8]) (t9 _ _ _ _ _ _ _ _ _ _ _ _ _ _ _ _ _)
theorem t7 (ok : Bool) (c0 c1 c2 c3 c4 c5 : Int) (l : List Int) (x7 x8 : List S45) (b0 b1 b2 b3 b4 b5 : Int) : Ev (fun k => gangwayref5_May.q.j7 k ok c0 c1 c2 c3 c4 c5 l x7 x8 b0 b1 b2 b3 b4 b5) (decide (ok = true ∧ c0 = b0 ∧ c1 = b1 ∧ c2 = b2 ∧ c3 = b3 ∧ c4 = b4 ∧ c5 = b5 ∧ l.length = ([] : List Int).length ∧ x7.length = ([] : List S45).length ∧ x8.length = ([] : List S45).length)) := Ev.step (fun k => by rw [gangwayref5_May.q.j7]) (t8 _ _ _ _ _ _ _ _ _ _ _ _ _ _ _ _ _)
theorem t6 (ok : Bool) (c0 c1 c2 c3 c4 c5 : Int) (l : List Int) (x7 x8 : List S45) (b0 b1 b2 b3 b4 b5 : Int) : Ev (fun k => gangwayref5_May.q.j6 k ok c0 c1 c2 c3 c4 c5 l x7 x8 b0 b1 b2 b3 b4 b5) (decide (ok = true ∧ c0 = b0 ∧ c1 = b1 ∧ c2 = b2 ∧ c3 = b3 ∧ c4 = b4 ∧ c5 = b5 ∧ l.length = ([] : List Int).length ∧ x7.length = ([] : List S45).length ∧ x8.length = ([] : List S45).length)) := Ev.step (fun k => by rw [gangwayref5_May.q.j6]) (t7 _ _ _ _ _ _ _ _ _ _ _ _ _ _ _ _)
theorem t5 (ok : Bool) (c0 c1 c2 c3 c4 c5 : Int) (l : List Int) (x7 x8 : List S45) (b0 b1 b2 b3 b4 b5 : Int) : Ev (fun k => gangwayref5_May.q.j5 k ok c0 c1 c2 c3 c4 c5 l x7 x8 b0 b1 b2 b3 b4 b5) (decide (ok = true ∧ c0 = b0 ∧ c1 = b1 ∧ c2 = b2 ∧ c3 = b3 ∧ c4 = b4 ∧ c5 = b5 ∧ l.length = ([] : List Int).length ∧ x7.length = ([] : List S45).length ∧ x8.length = ([] : List S45).length)) := Ev.step (fun k => by rw [gangwayref5_May.q.j5]) (t6 _ _ _ _ _ _ _ _ _ _ _ _ _ _ _ _)
theorem rlabels (l : List Int) (hl : l.length ≤ 9223372036854775807) (x7 x8 : List S45) (c0 c1 c2 c3 c4 c5 b0 b1 b2 b3 b4 b5 : Int) (l6 : List Int) : ∀ (d j : Nat), j + d = l.length → ∀ ok : Bool,
    Ev (fun k => gangwayref5_May.q.l0 k ok (j : Int) c0 c1 c2 c3 c4 c5 l x7 x8 b0 b1 b2 b3 b4 b5 l6)
      (decide ((ok = true ∧ ∀ n ∈ l.drop j, W n) ∧ c0 = b0 ∧ c1 = b1 ∧ c2 = b2 ∧ c3 = b3 ∧ c4 = b4 ∧ c5 = b5 ∧ l.length = l6.length ∧ x7.length = 0 ∧ x8.length = 0)) := by
  intro d
  induction d with
  | zero =>
    intro j hj ok
    refine Ev.step (fun k => by rw [gangwayref5_May.q.l0]) ?_
    refine Ev.ifn (by omega) ?_
    refine Ev.to (t8 _ _ _ _ _ _ _ _ _ _ _ _ _ _ _ _ _) (dd ?_)
    rw [List.drop_eq_nil_of_le (by omega)]
    constructor
    · rintro ⟨h, h'⟩
      exact ⟨⟨h, fun n hn => absurd hn (by simp)⟩, h'⟩
    · rintro ⟨⟨h, _⟩, h'⟩
      exact ⟨h, h'⟩
  | succ d ih =>
    intro j hj ok
    have e3 : wrap64 ((j : Int) + 1) = ((j + 1 : Nat) : Int) := by rw [w64 (by omega) (by omega)]; omega
    have hg : rd l (j : Int) = l[j]'(by omega) := by rw [rd_nat, List.getD_eq_getElem?_getD, List.getElem?_eq_getElem (by omega)]; rfl
    have hd : l.drop j = l[j]'(by omega) :: l.drop (j + 1) := List.drop_eq_getElem_cons (by omega)
    refine Ev.step (fun k => by rw [gangwayref5_May.q.l0]) ?_
    refine Ev.ifp (by omega) ?_
    by_cases hk : ok = true
    · refine Ev.ifp hk (Ev.ifp (by omega) (Ev.val (in_val _) (Ev.step (fun k => by rw [gangwayref5_May.q.j4]) ?_)))
      rw [e3]
      refine Ev.to (ih (j + 1) (by omega) _) (dd ?_)
      rw [decide_eq_true_eq, hg, hd]
      constructor
      · rintro ⟨⟨h, h2⟩, h'⟩
        exact ⟨⟨hk, fun n hn => by rcases List.mem_cons.1 hn with rfl | hn; exact h; exact h2 n hn⟩, h'⟩
      · rintro ⟨⟨_, h⟩, h'⟩
        exact ⟨⟨h _ (List.mem_cons_self ..), fun n hn => h n (List.mem_cons_of_mem _ hn)⟩, h'⟩
    · refine Ev.ifn hk (Ev.step (fun k => by rw [gangwayref5_May.q.j4]) ?_)
      rw [e3]
      refine Ev.to (ih (j + 1) (by omega) false) (dd ?_)
      constructor
      · rintro ⟨⟨h, _⟩, _⟩
        exact absurd h (by decide)
      · rintro ⟨⟨h, _⟩, _⟩
        exact absurd h hk

/-- An instruction, by the reference. -/
theorem may_ev (x : S45) (dp : Int) (rec : List S45 → Bool) (hl : x.f6.length ≤ 9223372036854775807)
    (h7 : dp ≠ 0 → Ev (fun k => gangwayref5_May.f k x.f7 (wrap64 (dp - 1))) (rec x.f7)) (h8 : dp ≠ 0 → Ev (fun k => gangwayref5_May.f k x.f8 (wrap64 (dp - 1))) (rec x.f8)) :
    Ev (fun k => gangwayref5_May.q.f k x.f0 x.f1 x.f2 x.f3 x.f4 x.f5 x.f6 x.f7 x.f8 dp) (mayB (fun l => decide (dp ≠ 0) && rec l) x) := by
  refine Ev.step (fun k => by rw [gangwayref5_May.q.f]) ?_
  refine Ev.bd (shape5_ev x.f0) ?_
  obtain ⟨s0, s1, s2, s3, s4, s5, s6, s7, s8, s9⟩ := shr_cases x.f0
  unfold mayB
  have hr := shp_top x.f0
  revert hr s0 s1 s2 s3 s4 s5 s6 s7 s8 s9
  generalize shr5 x.f0 = t
  generalize shp x.f0 = s
  intro s0 s1 s2 s3 s4 s5 s6 s7 s8 s9 hr
  by_cases ht0 : t = 0
  · refine Ev.to (Ev.ifp ht0 (Ev.now _)) ?_
    have := s0.1 ht0
    rw [if_neg (by omega), if_neg (by omega), if_neg (by omega), if_neg (by omega), if_neg (by omega), if_neg (by omega), if_neg (by omega)]
  refine Ev.ifn ht0 ?_
  by_cases hb : s = 2 ∨ s = 3
  · rw [if_pos hb]
    refine Ev.ifp (s2.2 hb) ?_
    by_cases hd : dp = 0
    · refine Ev.to (Ev.ifp hd (Ev.now _)) ?_
      rw [eq_comm, decide_eq_false]
      rintro ⟨_, h, _⟩
      rw [decide_eq_false (Decidable.not_not.2 hd)] at h
      exact absurd h (by simp)
    refine Ev.ifn hd ?_
    rw [decide_eq_true (show dp ≠ 0 from hd)]
    simp only [Bool.true_and]
    have rest : ∀ (ok : Bool), (ok = true ↔ T x.f1 ∧ rec x.f7 = true) → Ev (fun k => gangwayref5_May.q.j0 k dp ok x.f0 x.f1 x.f2 x.f3 x.f4 x.f5 x.f6 x.f7 x.f8 x.f0 x.f1 0 0 0 0 x.f7)
        (decide (T x.f1 ∧ rec x.f7 = true ∧ (x.f0 = 4 → rec x.f8 = true) ∧ (x.f0 ≠ 4 → x.f8.length = 0) ∧ x.f2 = 0 ∧ x.f3 = 0 ∧ x.f4 = 0 ∧ x.f5 = 0 ∧ x.f6.length = 0)) := by
      intro ok hok
      refine Ev.step (fun k => by rw [gangwayref5_May.q.j0]) ?_
      by_cases h4 : x.f0 = 4
      · refine Ev.ifp h4 ?_
        by_cases hk : ok = true
        · have hk2 := hok.1 hk
          refine Ev.ifp hk (Ev.bd (h8 hd) ?_)
          refine Ev.to (t1 _ _ _ _ _ _ _ _ _ _ _ _ _ _ _ _ _ _) (dd ?_)
          constructor
          · rintro ⟨h1, _, _, h2, h3, h4', h5, h6, _⟩
            exact ⟨hk2.1, hk2.2, fun _ => h1, fun h => absurd h4 h, h2, h3, h4', h5, h6⟩
          · rintro ⟨_, _, h1, _, h2, h3, h4', h5, h6⟩
            exact ⟨h1 h4, rfl, rfl, h2, h3, h4', h5, h6, rfl, rfl⟩
        · refine Ev.to (Ev.ifn hk (t1 _ _ _ _ _ _ _ _ _ _ _ _ _ _ _ _ _ _)) (dd ⟨fun h => absurd h.1 (by decide), ?_⟩)
          rintro ⟨h1, h2, _⟩
          exfalso
          exact hk (hok.2 ⟨h1, h2⟩)
      · refine Ev.ifn h4 ?_
        refine Ev.to (t1 _ _ _ _ _ _ _ _ _ _ _ _ _ _ _ _ _ _) (dd ?_)
        constructor
        · rintro ⟨h1, _, _, h2, h3, h4', h5, h6, _, h9⟩
          exact ⟨(hok.1 h1).1, (hok.1 h1).2, fun h => absurd h h4, fun _ => h9, h2, h3, h4', h5, h6⟩
        · rintro ⟨h0, h0', _, h1, h2, h3, h4', h5, h6⟩
          exact ⟨hok.2 ⟨h0, h0'⟩, rfl, rfl, h2, h3, h4', h5, h6, rfl, h1 h4⟩
    by_cases ha : x.f1 = 64
    · refine Ev.ifp ha (Ev.bd (h7 hd) (rest _ ?_))
      exact ⟨fun h => ⟨Or.inl ha, h⟩, fun h => h.2⟩
    refine Ev.ifn ha ?_
    by_cases ha2 : x.f1 = 127
    · refine Ev.ifp ha2 (Ev.bd (h7 hd) (rest _ ?_))
      exact ⟨fun h => ⟨Or.inr (Or.inl ha2), h⟩, fun h => h.2⟩
    refine Ev.ifn ha2 ?_
    by_cases ha3 : x.f1 = 126
    · refine Ev.ifp ha3 (Ev.bd (h7 hd) (rest _ ?_))
      exact ⟨fun h => ⟨Or.inr (Or.inr ha3), h⟩, fun h => h.2⟩
    refine Ev.ifn ha3 (rest _ ?_)
    exact ⟨fun h => absurd h (by decide), fun h => by rcases h.1 with h | h | h <;> omega⟩
  rw [if_neg hb]
  refine Ev.ifn (fun h => hb (s2.1 h)) ?_
  have four : Ev (fun k => gangwayref5_May.q.j2 k true t true x.f0 x.f1 x.f2 x.f3 x.f4 x.f5 x.f6 x.f7 x.f8 x.f0 0 0 0 0 0) (decide (W x.f2 ∧ x.f1 = 0 ∧ x.f3 = 0 ∧ x.f4 = 0 ∧ x.f5 = 0 ∧ x.f6.length = 0 ∧ x.f7.length = 0 ∧ x.f8.length = 0)) := by
    refine Ev.step (fun k => by rw [gangwayref5_May.q.j2]) (Ev.ifp rfl (Ev.val (in_val _) ?_))
    refine Ev.to (t9 _ _ _ _ _ _ _ _ _ _ _ _ _ _ _ _ _) (dd ?_)
    rw [decide_eq_true_eq]
    constructor
    · rintro ⟨h, _, h1, _, h3, h4, h5, h6, h7, h8⟩
      exact ⟨h, h1, h3, h4, h5, h6, h7, h8⟩
    · rintro ⟨h, h1, h3, h4, h5, h6, h7, h8⟩
      exact ⟨h, rfl, h1, rfl, h3, h4, h5, h6, h7, h8⟩
  by_cases h3 : t = 3
  · subst h3
    refine Ev.ifp rfl ?_
    exact Ev.to four (by rw [if_pos (Or.inl (s3.1 rfl))])
  refine Ev.ifn h3 ?_
  by_cases h5 : t = 5
  · subst h5
    exact Ev.to four (by rw [if_pos (Or.inr (s5.1 rfl))])
  rw [if_neg (c := s = 4 ∨ s = 6) (by omega), show (t == 5) = false from by rw [beqd]; exact decide_eq_false h5]
  refine Ev.step (fun k => by rw [gangwayref5_May.q.j2]) (Ev.ifn (by decide) ?_)
  by_cases h4 : t = 4
  · rw [if_pos (c := s = 5) (s4.1 h4)]
    refine Ev.ifp h4 (Ev.val (in_val _) ?_)
    refine Ev.to (rlabels x.f6 hl _ _ _ _ _ _ _ _ _ _ _ _ _ _ _ x.f6.length 0 (by omega) _) (dd ?_)
    rw [decide_eq_true_eq, List.drop_zero]
    constructor
    · rintro ⟨⟨h, h'⟩, _, h1, _, h3, h4, h5, _, h7, h8⟩
      exact ⟨h, h', h1, h3, h4, h5, h7, h8⟩
    · rintro ⟨h, h', h1, h3, h4, h5, h7, h8⟩
      exact ⟨⟨h, h'⟩, rfl, h1, rfl, h3, h4, h5, rfl, h7, h8⟩
  rw [if_neg (c := s = 5) (by omega)]
  refine Ev.ifn h4 ?_
  by_cases h6 : t = 6
  · rw [if_pos (c := s = 7) (s6.1 h6)]
    refine Ev.ifp h6 ?_
    refine Ev.val (in_val _) ?_
    by_cases hw : W x.f3
    · refine Ev.ifp (decide_eq_true hw) (Ev.val (in_val _) ?_)
      refine Ev.to (t7 _ _ _ _ _ _ _ _ _ _ _ _ _ _ _ _) (dd ?_)
      rw [decide_eq_true_eq]
      constructor
      · rintro ⟨h', _, h1, h2, _, _, h5, h6, h7, h8⟩
        exact ⟨hw, h', h1, h2, h5, h6, h7, h8⟩
      · rintro ⟨h, h', h1, h2, h5, h6, h7, h8⟩
        exact ⟨h', rfl, h1, h2, rfl, rfl, h5, h6, h7, h8⟩
    · refine Ev.to (Ev.ifn (fun h => hw (of_decide_eq_true h)) (t7 _ _ _ _ _ _ _ _ _ _ _ _ _ _ _ _)) (dd ⟨fun h => absurd h.1 (by decide), fun h => absurd h.1 hw⟩)
  rw [if_neg (c := s = 7) (by omega)]
  refine Ev.ifn h6 ?_
  by_cases h8s : t = 8
  · rw [if_pos (c := s = 9) (s8.1 h8s)]
    refine Ev.ifp h8s ?_
    by_cases hw : x.f5 ≥ (-2147483648)
    · refine Ev.ifp hw (Ev.to (t6 _ _ _ _ _ _ _ _ _ _ _ _ _ _ _ _) (dd ?_))
      rw [decide_eq_true_eq]
      constructor
      · rintro ⟨h', _, h1, h2, h3, h4, _, h6, h7, h8⟩
        exact ⟨⟨hw, h'⟩, h1, h2, h3, h4, h6, h7, h8⟩
      · rintro ⟨⟨h, h'⟩, h1, h2, h3, h4, h6, h7, h8⟩
        exact ⟨h', rfl, h1, h2, h3, h4, rfl, h6, h7, h8⟩
    · refine Ev.to (Ev.ifn hw (t6 _ _ _ _ _ _ _ _ _ _ _ _ _ _ _ _)) (dd ⟨fun h => absurd h.1 (by decide), fun h => absurd h.1.1 hw⟩)
  rw [if_neg (c := s = 9) (by omega)]
  refine Ev.ifn h8s ?_
  by_cases h9s : t = 9
  · rw [if_pos (c := s = 10) (s9.1 h9s)]
    refine Ev.ifp h9s (Ev.to (t5 _ _ _ _ _ _ _ _ _ _ _ _ _ _ _ _) (dd ?_))
    constructor
    · rintro ⟨_, _, h1, h2, h3, h4, _, h6, h7, h8⟩
      exact ⟨h1, h2, h3, h4, h6, h7, h8⟩
    · rintro ⟨h1, h2, h3, h4, h6, h7, h8⟩
      exact ⟨rfl, rfl, h1, h2, h3, h4, rfl, h6, h7, h8⟩
  rw [if_neg (c := s = 10) (by omega), if_pos (c := s = 1 ∨ s = 8) (by omega)]
  refine Ev.ifn h9s (Ev.to (t5 _ _ _ _ _ _ _ _ _ _ _ _ _ _ _ _) (dd ?_))
  constructor
  · rintro ⟨_, _, h⟩
    exact h
  · intro h
    exact ⟨rfl, rfl, h⟩

theorem mayl_ev (l : List S45) (hl : l.length ≤ 9223372036854775807) (dp : Int) (q : S45 → Bool) (hq : ∀ y ∈ l, Ev (fun k => gangwayref5_May.q.f k y.f0 y.f1 y.f2 y.f3 y.f4 y.f5 y.f6 y.f7 y.f8 dp) (q y)) :
    ∀ (d j : Nat), j + d = l.length → Ev (fun k => gangwayref5_May.l0 k l dp (j : Int)) ((l.drop j).all q) := by
  intro d
  induction d with
  | zero =>
    intro j hj
    refine Ev.step (fun k => by rw [gangwayref5_May.l0]) ?_
    refine Ev.to (Ev.ifn (by omega) (Ev.now _)) ?_
    rw [List.drop_eq_nil_of_le (by omega)]
    rfl
  | succ d ih =>
    intro j hj
    have e3 : wrap64 ((j : Int) + 1) = ((j + 1 : Nat) : Int) := by rw [w64 (by omega) (by omega)]; omega
    have hg := rdT_nat l j (by omega)
    have hd : l.drop j = l[j]'(by omega) :: l.drop (j + 1) := List.drop_eq_getElem_cons (by omega)
    refine Ev.step (fun k => by rw [gangwayref5_May.l0]) ?_
    refine Ev.ifp (by omega) (Ev.ifp (by omega) ?_)
    rw [hg]
    refine Ev.bd (hq _ (List.getElem_mem _)) ?_
    by_cases hc : q (l[j]'(by omega)) = true
    · refine Ev.ifp hc ?_
      rw [e3]
      refine Ev.to (ih (j + 1) (by omega)) ?_
      rw [hd, List.all_cons, hc, Bool.true_and]
    · refine Ev.to (Ev.ifn hc (Ev.now _)) ?_
      rw [hd, List.all_cons, Bool.eq_false_iff.mpr hc]
      rfl
theorem mayq_ev (l : List S45) (hl : l.length ≤ 9223372036854775807) (dp : Int) (q : S45 → Bool) (hq : ∀ y ∈ l, Ev (fun k => gangwayref5_May.q.f k y.f0 y.f1 y.f2 y.f3 y.f4 y.f5 y.f6 y.f7 y.f8 dp) (q y)) :
    Ev (fun k => gangwayref5_May.f k l dp) (l.all q) := by
  refine Ev.step (fun k => by rw [gangwayref5_May.f]) ?_
  exact mayl_ev l hl dp q hq l.length 0 (by omega)
/-- Instructions, by the reference; d blocks may still be opened. -/
theorem May_ev : ∀ (d : Nat), d ≤ 40 → ∀ (l : List S45), l.length ≤ 9223372036854775807 → (∀ y ∈ l, okT45 y) → Ev (fun k => gangwayref5_May.f k l (d : Int)) (l.all (mayI d)) := by
  intro d
  induction d with
  | zero =>
    intro _ l hl hok
    refine mayq_ev l hl _ _ fun y hy => ?_
    obtain ⟨hv, h6, h7, h8⟩ := okT_open (hok y hy)
    refine Ev.to (may_ev y _ (fun _ => true) h6 (fun h => absurd rfl h) (fun h => absurd rfl h)) ?_
    unfold mayI
    congr 1
  | succ d ih =>
    intro hd l hl hok
    refine mayq_ev l hl _ _ fun y hy => ?_
    obtain ⟨hv, h6, h7, h8⟩ := okT_open (hok y hy)
    have e : wrap64 (((d + 1 : Nat) : Int) - 1) = (d : Int) := by rw [w64 (by omega) (by omega)]; omega
    refine Ev.to (may_ev y _ (fun l => l.all (mayI d)) h6 (fun h => by rw [e]; exact ih (by omega) _ h7.1 h7.2) (fun h => by rw [e]; exact ih (by omega) _ h8.1 h8.2)) ?_
    rfl

theorem weightl_ev (l : List S45) (hl : l.length ≤ 9223372036854775807) (dp : Int) (hq : ∀ y ∈ l, ∀ n : Int, (∃ r, Ev (fun k => gangwaylaw0_Weight.f k y.f7 n (wrap64 (dp + 1))) r) ∧ (∃ r, Ev (fun k => gangwaylaw0_Weight.f k y.f8 n (wrap64 (dp + 1))) r)) :
    ∀ (d j : Nat), j + d = l.length → ∀ n : Int, ∃ r, Ev (fun k => gangwaylaw0_Weight.l0 k l n dp (j : Int)) r := by
  intro d
  induction d with
  | zero =>
    intro j hj n
    refine ⟨n, ?_⟩
    refine Ev.step (fun k => by rw [gangwaylaw0_Weight.l0]) ?_
    refine Ev.ifn (by omega) ?_
    refine Ev.step (fun k => by rw [gangwaylaw0_Weight.j1]) ?_
    exact Ev.ifn (by decide) (Ev.now _)
  | succ d ih =>
    intro j hj n
    have e3 : wrap64 ((j : Int) + 1) = ((j + 1 : Nat) : Int) := by rw [w64 (by omega) (by omega)]; omega
    have hg := rdT_nat l j (by omega)
    by_cases hn : n < 100000
    · obtain ⟨r1, h1⟩ := (hq _ (List.getElem_mem (by omega : j < l.length)) (wrap64 (wrap64 (n + 1) + ((l[j]'(by omega)).f6.length : Int)))).1
      obtain ⟨r2, h2⟩ := (hq _ (List.getElem_mem (by omega : j < l.length)) r1).2
      obtain ⟨r, h⟩ := ih (j + 1) (by omega) r2
      refine ⟨r, ?_⟩
      refine Ev.step (fun k => by rw [gangwaylaw0_Weight.l0]) ?_
      refine Ev.ifp (by omega) ?_
      refine Ev.step (fun k => by rw [gangwaylaw0_Weight.j1]) ?_
      refine Ev.ifp (decide_eq_true hn) (Ev.ifp (by omega) (Ev.ifp (by omega) ?_))
      rw [hg]
      refine Ev.bd h1 ?_
      refine Ev.bd h2 ?_
      rw [e3]
      exact h
    · refine ⟨n, ?_⟩
      refine Ev.step (fun k => by rw [gangwaylaw0_Weight.l0]) ?_
      refine Ev.ifp (by omega) ?_
      refine Ev.step (fun k => by rw [gangwaylaw0_Weight.j1]) ?_
      exact Ev.ifn (by rw [decide_eq_false hn]; decide) (Ev.now _)
theorem weight_ev : ∀ (e : Nat), e ≤ 61 → ∀ (l : List S45), l.length ≤ 9223372036854775807 → (∀ y ∈ l, okT45 y) → ∀ n : Int, ∃ r, Ev (fun k => gangwaylaw0_Weight.f k l n (61 - (e : Int))) r := by
  intro e
  induction e with
  | zero =>
    intro _ l _ _ n
    refine ⟨100000, ?_⟩
    refine Ev.step (fun k => by rw [gangwaylaw0_Weight.f]) ?_
    exact Ev.ifp (by omega) (Ev.now _)
  | succ e ih =>
    intro he l hl hok n
    have e1 : wrap64 (61 - ((e + 1 : Nat) : Int) + 1) = 61 - (e : Int) := by rw [w64 (by omega) (by omega)]; omega
    obtain ⟨r, h⟩ := weightl_ev l hl (61 - ((e + 1 : Nat) : Int)) (fun y hy n => by
      obtain ⟨_, _, h7, h8⟩ := okT_open (hok y hy)
      rw [e1]
      exact ⟨ih (by omega) _ h7.1 h7.2 n, ih (by omega) _ h8.1 h8.2 n⟩) l.length 0 (by omega) n
    refine ⟨r, ?_⟩
    refine Ev.step (fun k => by rw [gangwaylaw0_Weight.f]) ?_
    exact Ev.ifn (by omega) h
theorem heavy_ev (l : List S45) (b : List Int) (hl : l.length ≤ 9223372036854775807) (hok : ∀ y ∈ l, okT45 y) : ∃ r, Ev (fun k => gangwaylaw5_heavy.f k l b) r := by
  obtain ⟨n, h⟩ := weight_ev 61 (by omega) l hl hok 0
  by_cases hn : n > 2000
  · refine ⟨true, ?_⟩
    refine Ev.bd h ?_
    exact Ev.ifp hn (Ev.now _)
  · refine ⟨decide ((b.length : Int) > 4000), ?_⟩
    refine Ev.bd h ?_
    exact Ev.ifn hn (Ev.now _)
theorem wakes_ev : Ev (fun k => gangwaylaw5_wakes.f k) true := Ev.of (fun k => gangwaylaw5_wakes.mono k) (k := 60) (by decide +kernel)
theorem rd26_nat (l : List S26) (j : Nat) (h : j < l.length) : rd_T26 l (j : Int) = l[j] := by
  unfold rd_T26
  rw [Int.toNat_natCast, List.getD_eq_getElem?_getD, List.getElem?_eq_getElem h]
  rfl
end Go.Proofs.Ytlahigmoljflkaa.Q
