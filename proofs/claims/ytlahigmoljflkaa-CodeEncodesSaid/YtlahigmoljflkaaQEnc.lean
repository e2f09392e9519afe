import Derived.Test.YtlahigmoljflkaaPAllx25
import Derived.Test.YtlahigmoljflkaaPAllx28
import Derived.Test.YtlahigmoljflkaaPAllx29
import Derived.Test.YtlahigmoljflkaaPAllx13
import Derived.Test.YtlahigmoljflkaaQCode
import Derived.Test.YtlahigmoljflkaaQLebP
/- Instructions' bytes, as one plain function; what the program's writer and the reference's come to; copies and comparisons of instructions. -/
namespace Go.Proofs.Ytlahigmoljflkaa.Q
open Go.RowKit Go.Proofs.Ytlahigmoljflkaa.PAll Go.Proofs.YtlahigmoljflkaaW.PrintWords Go.Proofs.YtlahigmoljflkaaW.PrintLast Go.Proofs.YtlahigmoljflkaaW.PrintMore Go.Proofs.YtlahigmoljflkaaU
set_option linter.unusedVariables false

theorem copyn_l0 (a : List Int) (hm : a.length < 17592186044416) : ∀ (d j : Nat), j + d = a.length → ∀ k, d < k → gangwayref0_CopyNumbers.l0 k a (a.take j) (j : Int) = some a := by
  intro d
  induction d with
  | zero =>
    intro j hj k hk
    obtain ⟨k, rfl⟩ : ∃ m, k = m + 1 := ⟨k - 1, by omega⟩
    simp only [gangwayref0_CopyNumbers.l0]
    rw [if_neg (by omega), List.take_of_length_le (by omega)]
  | succ d ih =>
    intro j hj k hk
    obtain ⟨k, rfl⟩ : ∃ m, k = m + 1 := ⟨k - 1, by omega⟩
    have e3 : wrap64 ((j : Int) + 1) = ((j + 1 : Nat) : Int) := by rw [w64 (by omega) (by omega)]; omega
    have et : a.take j ++ [a.getD j 0] = a.take (j + 1) := by
      rw [List.take_succ_eq_append_getElem (by omega), List.getD_eq_getElem?_getD, List.getElem?_eq_getElem (by omega)]
      rfl
    simp only [gangwayref0_CopyNumbers.l0]
    rw [if_pos (by omega), if_pos (by omega), if_pos (by rw [List.length_take]; omega), rd_nat, e3, et]
    exact ih (j + 1) (by omega) k (by omega)
theorem copyn_ev (a : List Int) (hm : a.length < 17592186044416) : Ev (fun k => gangwayref0_CopyNumbers.f k a) a :=
  Ev.big (a.length + 1) fun k hk => copyn_l0 a hm a.length 0 (by omega) k (by omega)
theorem eqn_l0 (a : List Int) (hm : a.length ≤ 9223372036854775806) : ∀ (d j : Nat), j + d = a.length → ∀ k, d < k → gangwayref0_EqNumbers.l0 k a a (j : Int) = some true := by
  intro d
  induction d with
  | zero =>
    intro j hj k hk
    obtain ⟨k, rfl⟩ : ∃ m, k = m + 1 := ⟨k - 1, by omega⟩
    simp only [gangwayref0_EqNumbers.l0]
    rw [if_neg (by omega)]
  | succ d ih =>
    intro j hj k hk
    obtain ⟨k, rfl⟩ : ∃ m, k = m + 1 := ⟨k - 1, by omega⟩
    have e3 : wrap64 ((j : Int) + 1) = ((j + 1 : Nat) : Int) := by rw [w64 (by omega) (by omega)]; omega
    simp only [gangwayref0_EqNumbers.l0]
    rw [if_pos (by omega), if_pos (by omega), if_pos (by omega), if_true, e3]
    exact ih (j + 1) (by omega) k (by omega)
theorem eqn_ev (a : List Int) (hm : a.length ≤ 9223372036854775806) : Ev (fun k => gangwayref0_EqNumbers.f k a a) true :=
  Ev.big (a.length + 1) fun k hk => by
    unfold gangwayref0_EqNumbers.f
    rw [if_pos rfl]
    exact eqn_l0 a hm a.length 0 (by omega) k (by omega)
theorem eta45 (x : S45) : (⟨x.f0, x.f1, x.f2, x.f3, x.f4, x.f5, x.f6, x.f7, x.f8⟩ : S45) = x := by cases x; rfl
/-- Lists of instructions nested no deeper than n. -/
def Oks (n : Nat) (l : List S45) : Prop := l.length * 120 ≤ 140737488351232 ∧ ∀ y ∈ l, okT45n n y
theorem eqi_ev : ∀ (n : Nat) (l : List S45), Oks n l → Ev (fun k => gangwayref0_EqInstrs.f k l l) true := by
  intro n
  induction n with
  | zero =>
    intro l ⟨_, h⟩
    have hl : l = [] := by
      cases l with
      | nil => rfl
      | cons x r => exact (h x (List.mem_cons_self ..)).elim
    subst hl
    refine Ev.step (fun k => by rw [gangwayref0_EqInstrs.f]) ?_
    refine Ev.ifp rfl ?_
    refine Ev.step (fun k => by rw [gangwayref0_EqInstrs.l0]) ?_
    exact Ev.ifn (by simp) (Ev.now _)
  | succ n ih =>
    intro l ⟨hl, h⟩
    have loop : ∀ (d j : Nat), j + d = l.length → Ev (fun k => gangwayref0_EqInstrs.l0 k l l (j : Int)) true := by
      intro d
      induction d with
      | zero =>
        intro j hj
        refine Ev.step (fun k => by rw [gangwayref0_EqInstrs.l0]) ?_
        exact Ev.ifn (by omega) (Ev.now _)
      | succ d ihd =>
        intro j hj
        have e3 : wrap64 ((j : Int) + 1) = ((j + 1 : Nat) : Int) := by rw [w64 (by omega) (by omega)]; omega
        have hg := rdT_nat l j (by omega)
        obtain ⟨_, _, _, _, _, h5, ⟨h6, _⟩, h7, h8⟩ := h _ (List.getElem_mem (by omega : j < l.length))
        refine Ev.step (fun k => by rw [gangwayref0_EqInstrs.l0]) ?_
        refine Ev.ifp (by omega) (Ev.ifp (by omega) (Ev.ifp (by omega) ?_))
        rw [hg, e3]
        have one : Ev (fun k => gangwayref0_EqInstrs.q.f k (l[j]'(by omega)).f0 (l[j]'(by omega)).f1 (l[j]'(by omega)).f2 (l[j]'(by omega)).f3 (l[j]'(by omega)).f4 (l[j]'(by omega)).f5 (l[j]'(by omega)).f6 (l[j]'(by omega)).f7 (l[j]'(by omega)).f8
            (l[j]'(by omega)).f0 (l[j]'(by omega)).f1 (l[j]'(by omega)).f2 (l[j]'(by omega)).f3 (l[j]'(by omega)).f4 (l[j]'(by omega)).f5 (l[j]'(by omega)).f6 (l[j]'(by omega)).f7 (l[j]'(by omega)).f8) true := by
          refine Ev.step (fun k => by rw [gangwayref0_EqInstrs.q.f]) ?_
          refine Ev.ifp rfl (Ev.ifp rfl (Ev.ifp rfl (Ev.ifp rfl (Ev.ifp rfl (Ev.ifp rfl ?_)))))
          refine Ev.bd (eqn_ev _ (by omega)) (Ev.ifp rfl ?_)
          refine Ev.bd (ih _ h7) (Ev.ifp rfl ?_)
          exact Ev.bd (ih _ h8) (Ev.now _)
        refine Ev.bd one (Ev.ifp rfl ?_)
        exact ihd (j + 1) (by omega)
    refine Ev.step (fun k => by rw [gangwayref0_EqInstrs.f]) ?_
    exact Ev.ifp rfl (loop l.length 0 (by omega))
theorem copyi_ev : ∀ (n : Nat) (l : List S45), Oks n l → Ev (fun k => gangwayref0_CopyInstrs.f k l) l := by
  intro n
  induction n with
  | zero =>
    intro l ⟨_, h⟩
    have hl : l = [] := by
      cases l with
      | nil => rfl
      | cons x r => exact (h x (List.mem_cons_self ..)).elim
    subst hl
    refine Ev.step (fun k => by rw [gangwayref0_CopyInstrs.f]) ?_
    refine Ev.step (fun k => by rw [gangwayref0_CopyInstrs.l0]) ?_
    exact Ev.ifn (by simp) (Ev.now _)
  | succ n ih =>
    intro l ⟨hl, h⟩
    have loop : ∀ (d j : Nat), j + d = l.length → Ev (fun k => gangwayref0_CopyInstrs.l0 k l (l.take j) (j : Int)) l := by
      intro d
      induction d with
      | zero =>
        intro j hj
        refine Ev.step (fun k => by rw [gangwayref0_CopyInstrs.l0]) ?_
        rw [List.take_of_length_le (by omega)]
        exact Ev.ifn (by omega) (Ev.now _)
      | succ d ihd =>
        intro j hj
        have e3 : wrap64 ((j : Int) + 1) = ((j + 1 : Nat) : Int) := by rw [w64 (by omega) (by omega)]; omega
        have hg := rdT_nat l j (by omega)
        have et : l.take j ++ [l[j]'(by omega)] = l.take (j + 1) := (List.take_succ_eq_append_getElem (by omega)).symm
        obtain ⟨_, _, _, _, _, h5, ⟨h6, _⟩, h7, h8⟩ := h _ (List.getElem_mem (by omega : j < l.length))
        refine Ev.step (fun k => by rw [gangwayref0_CopyInstrs.l0]) ?_
        refine Ev.ifp (by omega) (Ev.ifp (by omega) ?_)
        rw [hg, e3]
        have one : Ev (fun k => gangwayref0_CopyInstrs.q.f k (l[j]'(by omega)).f0 (l[j]'(by omega)).f1 (l[j]'(by omega)).f2 (l[j]'(by omega)).f3 (l[j]'(by omega)).f4 (l[j]'(by omega)).f5 (l[j]'(by omega)).f6 (l[j]'(by omega)).f7 (l[j]'(by omega)).f8)
            ((l[j]'(by omega)).f0, (l[j]'(by omega)).f1, (l[j]'(by omega)).f2, (l[j]'(by omega)).f3, (l[j]'(by omega)).f4, (l[j]'(by omega)).f5, (l[j]'(by omega)).f6, (l[j]'(by omega)).f7, (l[j]'(by omega)).f8) := by
          refine Ev.step (fun k => by rw [gangwayref0_CopyInstrs.q.f]) ?_
          refine Ev.bd (copyn_ev _ (by omega)) ?_
          refine Ev.bd (ih _ h7) ?_
          exact Ev.bd (ih _ h8) (Ev.now _)
        refine Ev.bd one (Ev.ifp (by rw [List.length_take]; omega) ?_)
        have h2 := ihd (j + 1) (by omega)
        rw [← et] at h2
        rw [← eta45 (l[j]'(by omega))] at h2
        exact h2
    refine Ev.step (fun k => by rw [gangwayref0_CopyInstrs.f]) ?_
    exact loop l.length 0 (by omega)

theorem okT_open2 {x : S45} (h : okT45 x) : (-9223372036854775808 ≤ x.f5 ∧ x.f5 ≤ 9223372036854775807) ∧ x.f6.length ≤ 9223372036854775806 ∧ (x.f7.length ≤ 9223372036854775806 ∧ ∀ y ∈ x.f7, okT45 y) ∧ (x.f8.length ≤ 9223372036854775806 ∧ ∀ y ∈ x.f8, okT45 y) := by
  obtain ⟨n, h⟩ := h
  cases n with
  | zero => exact h.elim
  | succ n =>
    obtain ⟨_, _, _, _, _, h5, ⟨h6, _⟩, ⟨h7, h7'⟩, ⟨h8, h8'⟩⟩ := h
    exact ⟨bd64 h5, by omega, ⟨by omega, fun y hy => ⟨n, h7' y hy⟩⟩, ⟨by omega, fun y hy => ⟨n, h8' y hy⟩⟩⟩

/-- One instruction; rec: the bytes of these lists. -/
def encB (rec : List S45 → List Int) (x : S45) : List Int :=
  [x.f0 % 256] ++ (if shp x.f0 = 2 ∨ shp x.f0 = 3 then [x.f1 % 256] ++ (rec x.f7 ++ (if 0 < x.f8.length then [5] ++ rec x.f8 else []) ++ [11])
    else if shp x.f0 = 4 then pu 9 x.f2 else if shp x.f0 = 5 then pu 9 (x.f6.length : Int) ++ x.f6.flatMap (pu 9) ++ pu 9 x.f2 else if shp x.f0 = 6 then pu 9 x.f2 ++ [0]
    else if shp x.f0 = 7 then pu 9 x.f3 ++ pu 9 x.f4 else if shp x.f0 = 8 then [0] else if shp x.f0 = 9 ∨ shp x.f0 = 10 then ps 9 x.f5 else [])
def encI : Nat → S45 → List Int
  | 0 => encB (fun _ => [])
  | d + 1 => encB (fun l => l.flatMap (encI d))
/-- What may be. -/
theorem mayB_word {rec : List S45 → Bool} {x : S45} (h : mayB rec x = true) :
    (shp x.f0 = 4 ∨ shp x.f0 = 5 ∨ shp x.f0 = 6 → W x.f2) ∧ (shp x.f0 = 7 → W x.f3 ∧ W x.f4) ∧ (shp x.f0 = 5 → ∀ n ∈ x.f6, W n) ∧ (shp x.f0 = 2 ∨ shp x.f0 = 3 → rec x.f7 = true ∧ (x.f0 = 4 → rec x.f8 = true) ∧ (x.f0 ≠ 4 → x.f8.length = 0)) := by
  unfold mayB at h
  split at h
  · have h := of_decide_eq_true h
    exact ⟨fun _ => by omega, fun _ => by omega, fun _ => by omega, fun _ => ⟨h.2.1, h.2.2.1, h.2.2.2.1⟩⟩
  · split at h
    · have h := of_decide_eq_true h
      exact ⟨fun _ => h.1, fun _ => by omega, fun _ => by omega, fun _ => by omega⟩
    · split at h
      · have h := of_decide_eq_true h
        exact ⟨fun _ => h.1, fun _ => by omega, fun _ => h.2.1, fun _ => by omega⟩
      · split at h
        · have h := of_decide_eq_true h
          exact ⟨fun _ => by omega, fun _ => ⟨h.1, h.2.1⟩, fun _ => by omega, fun _ => by omega⟩
        · exact ⟨fun _ => by omega, fun _ => by omega, fun _ => by omega, fun _ => by omega⟩
theorem number_ev (acc : List Int) (n : Int) (h : 0 ≤ n ∧ n ≤ 18446744073709551615) (hs : acc.length < 100000000) : Ev (fun k => code_writer_number.f k acc n) (acc ++ pu 9 n) := by
  have e : IntKind.u64.wrap n = n := by rw [wu64]; omega
  refine Ev.big 30 fun k hk => ?_
  unfold code_writer_number.f
  rw [e, put_ev n h.1 h.2 k hk]
  have := pu_length 9 n
  simp only [Option.bind_some]
  rw [if_pos (by omega)]
theorem wsigned_ev (acc : List Int) (n : Int) (h : -9223372036854775808 ≤ n ∧ n ≤ 9223372036854775807) (hs : acc.length < 100000000) : Ev (fun k => code_writer_signed.f k acc n) (acc ++ ps 9 n) := by
  refine Ev.big 30 fun k hk => ?_
  unfold code_writer_signed.f
  rw [puts_ev n h.1 h.2 k hk]
  have := ps_length 9 n
  simp only [Option.bind_some]
  rw [if_pos (by omega)]
theorem next_val (acc : List Int) (n : Int) (hs : acc.length < 100000000) : code_writer_next.f acc n = some (acc ++ [n % 256]) := by
  unfold code_writer_next.f
  rw [if_pos (by omega)]
theorem short_ev (n : Int) (h : 0 ≤ n ∧ n ≤ 18446744073709551615) : Ev (fun k => gangwayref5_short.f k n) (pu 9 n) := by
  have e : IntKind.u64.wrap n = n := by rw [wu64]; omega
  refine Ev.big 30 fun k hk => ?_
  unfold gangwayref5_short.f
  rw [e, rput_ev n h.1 h.2 k hk]
  rfl

/-- The labels of a table, by the program. -/
theorem wlabels_ev (l : List Int) (hl : l.length ≤ 9223372036854775806) (hw : ∀ n ∈ l, W n) (f2 : Int) (h2 : W f2) (c0 c1 c3 c4 c5 : Int) (x7 x8 : List S45) : ∀ (d j : Nat), j + d = l.length → ∀ acc : List Int, (acc ++ (l.drop j).flatMap (pu 9) ++ pu 9 f2).length < 100000000 →
    Ev (fun k => code_writer_list.q.l0 k l (l.length : Int) (j : Int) acc c0 c1 f2 c3 c4 c5 l x7 x8) (acc ++ (l.drop j).flatMap (pu 9) ++ pu 9 f2) := by
  intro d
  induction d with
  | zero =>
    intro j hj acc hs
    refine Ev.step (fun k => by rw [code_writer_list.q.l0]) ?_
    refine Ev.ifn (by omega) ?_
    rw [List.drop_eq_nil_of_le (by omega), List.flatMap_nil, List.append_nil] at hs ⊢
    rw [List.length_append] at hs
    exact Ev.bd (number_ev acc f2 ⟨h2.1, by have := h2.2; omega⟩ (by omega)) (Ev.now _)
  | succ d ih =>
    intro j hj acc hs
    have e3 : wrap64 ((j : Int) + 1) = ((j + 1 : Nat) : Int) := by rw [w64 (by omega) (by omega)]; omega
    have hg : rd l (j : Int) = l[j]'(by omega) := by rw [rd_nat, List.getD_eq_getElem?_getD, List.getElem?_eq_getElem (by omega)]; rfl
    have hd : l.drop j = l[j]'(by omega) :: l.drop (j + 1) := List.drop_eq_getElem_cons (by omega)
    have hj' := hw _ (List.getElem_mem (by omega : j < l.length))
    rw [hd, List.flatMap_cons] at hs ⊢
    have ea : acc ++ (pu 9 (l[j]'(by omega)) ++ (l.drop (j + 1)).flatMap (pu 9)) ++ pu 9 f2 = (acc ++ pu 9 (l[j]'(by omega))) ++ (l.drop (j + 1)).flatMap (pu 9) ++ pu 9 f2 := by simp only [List.append_assoc]
    rw [ea] at hs ⊢
    refine Ev.step (fun k => by rw [code_writer_list.q.l0]) ?_
    refine Ev.ifp (by omega) (Ev.ifp (by omega) (Ev.ifp (by omega) ?_))
    rw [hg, e3]
    refine Ev.bd (number_ev acc _ ⟨hj'.1, by have := hj'.2; omega⟩ (by simp only [List.length_append] at hs; omega)) ?_
    exact ih (j + 1) (by omega) _ hs
/-- One instruction, by the program. -/
theorem winstr_ev (x : S45) (recM : List S45 → Bool) (rec : List S45 → List Int) (hm : mayB recM x = true) (hl : x.f6.length ≤ 9223372036854775806) (hv : -9223372036854775808 ≤ x.f5 ∧ x.f5 ≤ 9223372036854775807) (acc : List Int) (hs : (acc ++ encB rec x).length < 100000000)
    (h7 : recM x.f7 = true → ∀ a : List Int, (a ++ rec x.f7).length < 100000000 → Ev (fun k => code_writer_list.f k a x.f7) (a ++ rec x.f7)) (h8 : recM x.f8 = true → ∀ a : List Int, (a ++ rec x.f8).length < 100000000 → Ev (fun k => code_writer_list.f k a x.f8) (a ++ rec x.f8)) :
    Ev (fun k => code_writer_list.q.f k acc x.f0 x.f1 x.f2 x.f3 x.f4 x.f5 x.f6 x.f7 x.f8) (acc ++ encB rec x) := by
  obtain ⟨m2, m7, m5, mb⟩ := mayB_word hm
  have hsp := shp_top x.f0
  have hel : ¬ (x.f0 = 4) → (shp x.f0 = 2 ∨ shp x.f0 = 3) → x.f8.length = 0 := fun h1 h2 => (mb h2).2.2 h1
  unfold encB at hs ⊢
  refine Ev.step (fun k => by rw [code_writer_list.q.f]) ?_
  have ha : acc.length < 100000000 := by rw [List.length_append] at hs; omega
  have ha1 : (acc ++ [x.f0 % 256]).length < 100000000 := by
    simp only [List.length_append, List.length_cons, List.length_nil] at hs ⊢
    omega
  refine Ev.val (next_val acc x.f0 ha) ?_
  refine Ev.bd (shape_ev x.f0) ?_
  rw [← List.append_assoc acc] at hs ⊢
  generalize acc ++ [x.f0 % 256] = b at hs ha1 ⊢
  generalize hsg : shp x.f0 = s at *
  have blocks : (s = 2 ∨ s = 3) → Ev (fun k => code_writer_list.q.j0 k s true b x.f0 x.f1 x.f2 x.f3 x.f4 x.f5 x.f6 x.f7 x.f8) (b ++ ([x.f1 % 256] ++ (rec x.f7 ++ (if 0 < x.f8.length then [5] ++ rec x.f8 else []) ++ [11]))) := by
    intro h
    rw [if_pos h] at hs
    obtain ⟨r7, r8, _⟩ := mb h
    refine Ev.step (fun k => by rw [code_writer_list.q.j0]) ?_
    refine Ev.ifp rfl (Ev.val (next_val b x.f1 ha1) ?_)
    rw [← List.append_assoc b] at hs ⊢
    have hs1 : (b ++ [x.f1 % 256] ++ rec x.f7).length < 100000000 := by
      simp only [List.length_append] at hs ⊢
      omega
    refine Ev.bd (h7 r7 _ hs1) ?_
    by_cases h8l : 0 < x.f8.length
    · have h4 : x.f0 = 4 := by
        rcases Decidable.em (x.f0 = 4) with h4 | h4
        · exact h4
        · have := hel h4 h
          omega
      rw [if_pos h8l] at hs ⊢
      refine Ev.ifp (by omega) (Ev.val (next_val _ 5 hs1) ?_)
      have hs2 : (b ++ [x.f1 % 256] ++ rec x.f7 ++ [5 % 256] ++ rec x.f8).length < 100000000 := by
        simp only [List.length_append, List.length_cons, List.length_nil] at hs ⊢
        omega
      refine Ev.bd (h8 (r8 h4) _ hs2) ?_
      refine Ev.val (next_val _ 11 hs2) ?_
      refine Ev.to (Ev.now _) ?_
      simp only [List.append_assoc]
      rfl
    · rw [if_neg h8l] at hs ⊢
      refine Ev.ifn (by omega) (Ev.val (next_val _ 11 hs1) ?_)
      refine Ev.to (Ev.now _) ?_
      simp only [List.append_assoc]
      rfl
  by_cases hb : s = 2 ∨ s = 3
  · rw [if_pos hb]
    rcases hb with h | h
    · refine Ev.ifp h ?_
      rw [h] at blocks ⊢
      exact blocks (Or.inl rfl)
    · refine Ev.ifn (by omega) ?_
      rw [h] at blocks ⊢
      exact blocks (Or.inr rfl)
  refine Ev.ifn (by omega) ?_
  rw [if_neg hb] at hs ⊢
  rw [show (s == 3) = false from by rw [beqd]; exact decide_eq_false (by omega)]
  refine Ev.step (fun k => by rw [code_writer_list.q.j0]) ?_
  refine Ev.ifn (by decide) ?_
  by_cases h4 : s = 4
  · rw [if_pos h4]
    have := m2 (by omega)
    refine Ev.ifp h4 ?_
    exact Ev.bd (number_ev b _ ⟨this.1, by have := this.2; omega⟩ ha1) (Ev.now _)
  rw [if_neg h4] at hs ⊢
  refine Ev.ifn h4 ?_
  by_cases h5 : s = 5
  · rw [if_pos h5] at hs ⊢
    have := m2 (by omega)
    refine Ev.ifp h5 ?_
    refine Ev.bd (number_ev b _ ⟨by omega, by omega⟩ ha1) ?_
    have e : b ++ (pu 9 (x.f6.length : Int) ++ x.f6.flatMap (pu 9) ++ pu 9 x.f2) = (b ++ pu 9 (x.f6.length : Int)) ++ (x.f6.drop 0).flatMap (pu 9) ++ pu 9 x.f2 := by
      rw [List.drop_zero]
      simp only [List.append_assoc]
    rw [e] at hs ⊢
    exact wlabels_ev x.f6 hl (m5 h5) x.f2 this _ _ _ _ _ _ _ x.f6.length 0 (by omega) _ hs
  rw [if_neg h5] at hs ⊢
  refine Ev.ifn h5 ?_
  by_cases h6 : s = 6
  · rw [if_pos h6] at hs ⊢
    have := m2 (by omega)
    refine Ev.ifp h6 ?_
    refine Ev.bd (number_ev b _ ⟨this.1, by have := this.2; omega⟩ ha1) ?_
    refine Ev.val (next_val _ 0 (by simp only [List.length_append, List.length_cons, List.length_nil] at hs ⊢; omega)) ?_
    refine Ev.to (Ev.now _) ?_
    simp only [List.append_assoc]
    rfl
  rw [if_neg h6] at hs ⊢
  refine Ev.ifn h6 ?_
  by_cases h7s : s = 7
  · rw [if_pos h7s] at hs ⊢
    have := m7 h7s
    refine Ev.ifp h7s ?_
    refine Ev.bd (number_ev b _ ⟨this.1.1, by have := this.1.2; omega⟩ ha1) ?_
    refine Ev.bd (number_ev _ _ ⟨this.2.1, by have := this.2.2; omega⟩ (by simp only [List.length_append] at hs ⊢; omega)) ?_
    refine Ev.to (Ev.now _) ?_
    simp only [List.append_assoc]
  rw [if_neg h7s] at hs ⊢
  refine Ev.ifn h7s ?_
  by_cases h8s : s = 8
  · rw [if_pos h8s] at hs ⊢
    refine Ev.ifp h8s (Ev.val (next_val b 0 ha1) ?_)
    exact Ev.now _
  rw [if_neg h8s] at hs ⊢
  refine Ev.ifn h8s ?_
  by_cases h9 : s = 9
  · rw [if_pos (Or.inl h9)]
    refine Ev.ifp h9 ?_
    exact Ev.bd (wsigned_ev b _ hv ha1) (Ev.now _)
  refine Ev.ifn h9 ?_
  by_cases h10 : s = 10
  · rw [if_pos (Or.inr h10)]
    refine Ev.ifp h10 ?_
    exact Ev.bd (wsigned_ev b _ hv ha1) (Ev.now _)
  rw [if_neg (by omega), List.append_nil]
  exact Ev.ifn h10 (Ev.now _)

theorem wl_ev (l : List S45) (hl : l.length ≤ 9223372036854775806) (enc : S45 → List Int) (hq : ∀ y ∈ l, ∀ a : List Int, (a ++ enc y).length < 100000000 → Ev (fun k => code_writer_list.q.f k a y.f0 y.f1 y.f2 y.f3 y.f4 y.f5 y.f6 y.f7 y.f8) (a ++ enc y)) :
    ∀ (d j : Nat), j + d = l.length → ∀ acc : List Int, (acc ++ (l.drop j).flatMap enc).length < 100000000 → Ev (fun k => code_writer_list.l0 k l (l.length : Int) (j : Int) acc) (acc ++ (l.drop j).flatMap enc) := by
  intro d
  induction d with
  | zero =>
    intro j hj acc hs
    refine Ev.step (fun k => by rw [code_writer_list.l0]) ?_
    rw [List.drop_eq_nil_of_le (by omega), List.flatMap_nil, List.append_nil]
    exact Ev.ifn (by omega) (Ev.now _)
  | succ d ih =>
    intro j hj acc hs
    have e3 : wrap64 ((j : Int) + 1) = ((j + 1 : Nat) : Int) := by rw [w64 (by omega) (by omega)]; omega
    have hg := rdT_nat l j (by omega)
    have hd : l.drop j = l[j]'(by omega) :: l.drop (j + 1) := List.drop_eq_getElem_cons (by omega)
    rw [hd, List.flatMap_cons, ← List.append_assoc] at hs ⊢
    refine Ev.step (fun k => by rw [code_writer_list.l0]) ?_
    refine Ev.ifp (by omega) (Ev.ifp (by omega) (Ev.ifp (by omega) ?_))
    rw [hg, e3]
    refine Ev.bd (hq _ (List.getElem_mem _) acc (by rw [List.length_append] at hs; omega)) ?_
    exact ih (j + 1) (by omega) _ hs
/-- What the program writes. -/
theorem wlist_ev : ∀ (d : Nat) (l : List S45), l.length ≤ 9223372036854775806 → (∀ y ∈ l, okT45 y) → l.all (mayI d) = true → ∀ acc : List Int, (acc ++ l.flatMap (encI d)).length < 100000000 → Ev (fun k => code_writer_list.f k acc l) (acc ++ l.flatMap (encI d)) := by
  intro d
  induction d with
  | zero =>
    intro l hl hok hm acc hs
    refine Ev.step (fun k => by rw [code_writer_list.f]) ?_
    refine wl_ev l hl (encI 0) (fun y hy a ha => ?_) l.length 0 (by omega) acc (by rw [List.drop_zero]; exact hs)
    obtain ⟨hv, h6, h7, h8⟩ := okT_open2 (hok y hy)
    exact winstr_ev y (fun _ => false) (fun _ => []) (List.all_eq_true.1 hm y hy) h6 hv a ha (fun h => absurd h (by decide)) (fun h => absurd h (by decide))
  | succ d ih =>
    intro l hl hok hm acc hs
    refine Ev.step (fun k => by rw [code_writer_list.f]) ?_
    refine wl_ev l hl (encI (d + 1)) (fun y hy a ha => ?_) l.length 0 (by omega) acc (by rw [List.drop_zero]; exact hs)
    obtain ⟨hv, h6, h7, h8⟩ := okT_open2 (hok y hy)
    exact winstr_ev y (fun l => l.all (mayI d)) (fun l => l.flatMap (encI d)) (List.all_eq_true.1 hm y hy) h6 hv a ha (fun h b hb => ih _ h7.1 h7.2 h b hb) (fun h b hb => ih _ h8.1 h8.2 h b hb)
/-- The program's Encode. -/
theorem encode_ev (l : List S45) (hl : l.length ≤ 9223372036854775806) (hok : ∀ y ∈ l, okT45 y) (hs : (l.flatMap (encI 40)).length < 90000000) :
    Ev (fun k => code_Encode.f k l) (if l.all (mayI 40) = true then (l.flatMap (encI 40) ++ [11], 0) else ([], 100)) := by
  have h := all_ev 40 (by omega) l (by omega) hok
  refine Ev.bd h ?_
  by_cases hc : l.all (mayI 40) = true
  · refine Ev.to (Ev.ifp hc ?_) (if_pos hc).symm
    have h2 := wlist_ev 40 l hl hok hc [] (by rw [List.nil_append]; omega)
    refine Ev.bd h2 ?_
    rw [List.nil_append]
    refine Ev.val (next_val _ 11 (by omega)) ?_
    exact Ev.now _
  · exact Ev.to (Ev.ifn hc (Ev.now _)) (if_neg hc).symm

theorem bl1_ev (L : List S45) (i : Nat) (hi : i < L.length) (hL : L.length ≤ 9223372036854775806) (c0 c1 c3 c4 c5 f2 : Int) (l : List Int) (x7 x8 : List S45) (hl : l.length ≤ 9223372036854775806) (hw : ∀ n ∈ l, W n) (h2 : W f2) (out : List Int) : ∀ (d j : Nat), j + d = l.length → ∀ acc : List Int, (acc ++ (l.drop j).flatMap (pu 9) ++ pu 9 f2).length < 100000000 →
    Ev (fun k => gangwayref5_body.l0 k L (acc ++ (l.drop j).flatMap (pu 9) ++ pu 9 f2) ((i + 1 : Nat) : Int)) out →
    Ev (fun k => gangwayref5_body.l1 k L acc (i : Int) (j : Int) c0 c1 f2 c3 c4 c5 l x7 x8) out := by
  intro d
  have e4 : wrap64 ((i : Int) + 1) = ((i + 1 : Nat) : Int) := by rw [w64 (by omega) (by omega)]; omega
  induction d with
  | zero =>
    intro j hj acc hs hn
    refine Ev.step (fun k => by rw [gangwayref5_body.l1]) ?_
    refine Ev.ifn (by omega) ?_
    rw [List.drop_eq_nil_of_le (by omega), List.flatMap_nil, List.append_nil] at hs hn
    refine Ev.bd (short_ev f2 ⟨h2.1, by have := h2.2; omega⟩) ?_
    rw [List.length_append] at hs
    refine Ev.ifp (by omega) ?_
    rw [e4]
    exact hn
  | succ d ih =>
    intro j hj acc hs hn
    have e3 : wrap64 ((j : Int) + 1) = ((j + 1 : Nat) : Int) := by rw [w64 (by omega) (by omega)]; omega
    have hg : rd l (j : Int) = l[j]'(by omega) := by rw [rd_nat, List.getD_eq_getElem?_getD, List.getElem?_eq_getElem (by omega)]; rfl
    have hd : l.drop j = l[j]'(by omega) :: l.drop (j + 1) := List.drop_eq_getElem_cons (by omega)
    have hj' := hw _ (List.getElem_mem (by omega : j < l.length))
    have ea : acc ++ (l.drop j).flatMap (pu 9) ++ pu 9 f2 = (acc ++ pu 9 (l[j]'(by omega))) ++ (l.drop (j + 1)).flatMap (pu 9) ++ pu 9 f2 := by
      rw [hd, List.flatMap_cons]
      simp only [List.append_assoc]
    rw [ea] at hs hn
    refine Ev.step (fun k => by rw [gangwayref5_body.l1]) ?_
    refine Ev.ifp (by omega) (Ev.ifp (by omega) ?_)
    rw [hg, e3]
    refine Ev.bd (short_ev _ ⟨hj'.1, by have := hj'.2; omega⟩) ?_
    refine Ev.ifp (by simp only [List.length_append] at hs; omega) ?_
    exact ih (j + 1) (by omega) _ hs hn
theorem rputs_e (v : Int) (hv : -9223372036854775808 ≤ v ∧ v ≤ 9223372036854775807) : Ev (fun k => gangwayref1_PutSint.f k v) (ps 9 v) := Ev.big 30 fun k hk => rputs_ev v hv.1 hv.2 k hk
/-- One instruction, by the reference: what follows is told with its bytes. -/
theorem binstr_ev (L : List S45) (i : Nat) (hi : i < L.length) (hL : L.length ≤ 9223372036854775806) (recM : List S45 → Bool) (rec : List S45 → List Int) (hm : mayB recM (L[i]'hi) = true) (hl : (L[i]'hi).f6.length ≤ 9223372036854775806) (hv : -9223372036854775808 ≤ (L[i]'hi).f5 ∧ (L[i]'hi).f5 ≤ 9223372036854775807)
    (acc out : List Int) (hs : (acc ++ encB rec (L[i]'hi)).length < 100000000)
    (h7 : recM (L[i]'hi).f7 = true → (rec (L[i]'hi).f7).length < 100000000 → Ev (fun k => gangwayref5_body.f k (L[i]'hi).f7) (rec (L[i]'hi).f7)) (h8 : recM (L[i]'hi).f8 = true → (rec (L[i]'hi).f8).length < 100000000 → Ev (fun k => gangwayref5_body.f k (L[i]'hi).f8) (rec (L[i]'hi).f8))
    (hn : Ev (fun k => gangwayref5_body.l0 k L (acc ++ encB rec (L[i]'hi)) ((i + 1 : Nat) : Int)) out) :
    Ev (fun k => gangwayref5_body.l0 k L acc (i : Int)) out := by
  have e4 : wrap64 ((i : Int) + 1) = ((i + 1 : Nat) : Int) := by rw [w64 (by omega) (by omega)]; omega
  have hg := rdT_nat L i hi
  refine Ev.step (fun k => by rw [gangwayref5_body.l0]) ?_
  refine Ev.ifp (by omega) (Ev.ifp (by omega) ?_)
  rw [hg, e4]
  generalize L[i]'hi = x at *
  obtain ⟨m2, m7, m5, mb⟩ := mayB_word hm
  have hsp := shp_top x.f0
  have hel : ¬ (x.f0 = 4) → (shp x.f0 = 2 ∨ shp x.f0 = 3) → x.f8.length = 0 := fun h1 h2 => (mb h2).2.2 h1
  obtain ⟨s0, s1, s2, s3, s4, s5, s6, s7, s8, s9⟩ := shr_cases x.f0
  unfold encB at hs hn
  have ha : acc.length < 100000000 := by rw [List.length_append] at hs; omega
  refine Ev.ifp (by omega) (Ev.val rfl ?_)
  refine Ev.bd (shape5_ev x.f0) ?_
  rw [← List.append_assoc acc] at hs hn
  have ha1 : (acc ++ [x.f0 % 256]).length < 100000000 := by rw [List.length_append] at hs; omega
  generalize acc ++ [x.f0 % 256] = b at *
  generalize shr5 x.f0 = t at *
  generalize shp x.f0 = s at *
  by_cases hb : s = 2 ∨ s = 3
  · rw [if_pos hb] at hs hn
    obtain ⟨r7, r8, _⟩ := mb hb
    refine Ev.ifp (s2.2 hb) (Ev.ifp (by omega) (Ev.val rfl ?_))
    rw [← List.append_assoc b] at hs hn
    have hs0 : (b ++ [x.f1 % 256]).length < 100000000 := by rw [List.length_append] at hs; omega
    generalize b ++ [x.f1 % 256] = c at *
    have hs1 : (rec x.f7).length < 100000000 := by simp only [List.length_append] at hs; omega
    refine Ev.bd (h7 r7 hs1) (Ev.ifp (by omega) (Ev.val rfl ?_))
    by_cases h8l : 0 < x.f8.length
    · have h4 : x.f0 = 4 := by
        rcases Decidable.em (x.f0 = 4) with h4 | h4
        · exact h4
        · have := hel h4 hb
          omega
      rw [if_pos h8l] at hs hn
      simp only [List.length_append, List.length_cons, List.length_nil] at hs
      refine Ev.ifp (by omega) (Ev.ifp (by rw [List.length_append]; omega) (Ev.val rfl ?_))
      refine Ev.bd (h8 (r8 h4) (by omega)) (Ev.ifp (by simp only [List.length_append, List.length_cons, List.length_nil]; omega) (Ev.val rfl ?_))
      refine Ev.ifp (by simp only [List.length_append, List.length_cons, List.length_nil]; omega) ?_
      simp only [List.append_assoc] at hn ⊢
      exact hn
    · rw [if_neg h8l] at hs hn
      simp only [List.length_append, List.length_cons, List.length_nil] at hs
      refine Ev.ifn (by omega) (Ev.ifp (by rw [List.length_append]; omega) ?_)
      simp only [List.append_assoc, List.nil_append] at hn ⊢
      exact hn
  refine Ev.ifn (fun h => hb (s2.1 h)) ?_
  rw [if_neg hb] at hs hn
  by_cases h4 : s = 4
  · rw [if_pos h4] at hs hn
    have := m2 (by omega)
    refine Ev.ifp (s3.2 h4) (Ev.bd (short_ev _ ⟨this.1, by have := this.2; omega⟩) (Ev.ifp (by rw [List.length_append] at hs; omega) ?_))
    exact hn
  rw [if_neg h4] at hs hn
  refine Ev.ifn (fun h => h4 (s3.1 h)) ?_
  by_cases h5 : s = 5
  · rw [if_pos h5] at hs hn
    have := m2 (by omega)
    refine Ev.ifp (s4.2 h5) (Ev.bd (short_ev _ ⟨by omega, by omega⟩) (Ev.ifp (by simp only [List.length_append] at hs; omega) ?_))
    have e : b ++ (pu 9 (x.f6.length : Int) ++ x.f6.flatMap (pu 9) ++ pu 9 x.f2) = (b ++ pu 9 (x.f6.length : Int)) ++ (x.f6.drop 0).flatMap (pu 9) ++ pu 9 x.f2 := by
      rw [List.drop_zero]
      simp only [List.append_assoc]
    rw [e] at hs hn
    exact bl1_ev L i hi hL _ _ _ _ _ _ x.f6 _ _ hl (m5 h5) this out x.f6.length 0 (by omega) _ hs hn
  rw [if_neg h5] at hs hn
  refine Ev.ifn (fun h => h5 (s4.1 h)) ?_
  by_cases h6 : s = 6
  · rw [if_pos h6] at hs hn
    have := m2 (by omega)
    simp only [List.length_append, List.length_cons, List.length_nil] at hs
    refine Ev.ifp (s5.2 h6) (Ev.bd (short_ev _ ⟨this.1, by have := this.2; omega⟩) (Ev.ifp (by omega) (Ev.val rfl ?_)))
    refine Ev.ifp (by rw [List.length_append]; omega) ?_
    rw [← List.append_assoc] at hn
    exact hn
  rw [if_neg h6] at hs hn
  refine Ev.ifn (fun h => h6 (s5.1 h)) ?_
  by_cases h7s : s = 7
  · rw [if_pos h7s] at hs hn
    have := m7 h7s
    simp only [List.length_append] at hs
    refine Ev.ifp (s6.2 h7s) (Ev.bd (short_ev _ ⟨this.1.1, by have := this.1.2; omega⟩) (Ev.ifp (by omega) (Ev.val rfl ?_)))
    refine Ev.bd (short_ev _ ⟨this.2.1, by have := this.2.2; omega⟩) (Ev.ifp (by rw [List.length_append]; omega) ?_)
    rw [← List.append_assoc] at hn
    exact hn
  rw [if_neg h7s] at hs hn
  refine Ev.ifn (fun h => h7s (s6.1 h)) ?_
  by_cases h8s : s = 8
  · rw [if_pos h8s] at hs hn
    refine Ev.ifp (s7.2 h8s) (Ev.ifp (by omega) ?_)
    exact hn
  rw [if_neg h8s] at hs hn
  refine Ev.ifn (fun h => h8s (s7.1 h)) ?_
  by_cases h9 : s = 9
  · rw [if_pos (Or.inl h9)] at hs hn
    refine Ev.ifp (s8.2 h9) (Ev.bd (rputs_e _ hv) (Ev.ifp (by rw [List.length_append] at hs; omega) ?_))
    exact hn
  refine Ev.ifn (fun h => h9 (s8.1 h)) ?_
  by_cases h10 : s = 10
  · rw [if_pos (Or.inr h10)] at hs hn
    refine Ev.ifp (s9.2 h10) (Ev.bd (rputs_e _ hv) (Ev.ifp (by rw [List.length_append] at hs; omega) ?_))
    exact hn
  rw [if_neg (by omega), List.append_nil] at hn
  exact Ev.ifn (fun h => h10 (s9.1 h)) hn
theorem bl_ev (l : List S45) (hl : l.length ≤ 9223372036854775806) (recM : List S45 → Bool) (rec : List S45 → List Int) (hm : ∀ y ∈ l, mayB recM y = true) (hok : ∀ y ∈ l, okT45 y)
    (h7 : ∀ y ∈ l, ∀ r : List S45, r.length ≤ 9223372036854775806 → (∀ z ∈ r, okT45 z) → recM r = true → (rec r).length < 100000000 → Ev (fun k => gangwayref5_body.f k r) (rec r)) :
    ∀ (d j : Nat), j + d = l.length → ∀ acc : List Int, (acc ++ (l.drop j).flatMap (encB rec)).length < 100000000 → Ev (fun k => gangwayref5_body.l0 k l acc (j : Int)) (acc ++ (l.drop j).flatMap (encB rec)) := by
  intro d
  induction d with
  | zero =>
    intro j hj acc hs
    refine Ev.step (fun k => by rw [gangwayref5_body.l0]) ?_
    rw [List.drop_eq_nil_of_le (by omega), List.flatMap_nil, List.append_nil]
    exact Ev.ifn (by omega) (Ev.now _)
  | succ d ih =>
    intro j hj acc hs
    have hlt : j < l.length := by omega
    have hd : l.drop j = l[j]'hlt :: l.drop (j + 1) := List.drop_eq_getElem_cons (by omega)
    rw [hd, List.flatMap_cons, ← List.append_assoc] at hs ⊢
    have hy := List.getElem_mem hlt
    obtain ⟨hv, h6, hf7, hf8⟩ := okT_open2 (hok _ hy)
    refine binstr_ev l j hlt hl recM rec (hm _ hy) h6 hv acc _ (by rw [List.length_append] at hs; omega) (fun h h' => h7 _ hy _ hf7.1 hf7.2 h h') (fun h h' => h7 _ hy _ hf8.1 hf8.2 h h') ?_
    exact ih (j + 1) (by omega) _ hs
theorem body_ev : ∀ (d : Nat) (l : List S45), l.length ≤ 9223372036854775806 → (∀ y ∈ l, okT45 y) → l.all (mayI d) = true → (l.flatMap (encI d)).length < 100000000 → Ev (fun k => gangwayref5_body.f k l) (l.flatMap (encI d)) := by
  intro d
  induction d with
  | zero =>
    intro l hl hok hm hs
    refine Ev.step (fun k => by rw [gangwayref5_body.f]) ?_
    exact bl_ev l hl (fun _ => false) (fun _ => []) (fun y hy => List.all_eq_true.1 hm y hy) hok (fun y hy r _ _ h => absurd h (by decide)) l.length 0 (by omega) [] hs
  | succ d ih =>
    intro l hl hok hm hs
    refine Ev.step (fun k => by rw [gangwayref5_body.f]) ?_
    exact bl_ev l hl (fun l => l.all (mayI d)) (fun l => l.flatMap (encI d)) (fun y hy => List.all_eq_true.1 hm y hy) hok (fun y hy r h1 h2 h h' => ih r h1 h2 h h') l.length 0 (by omega) [] hs
theorem Bytes_ev (l : List S45) (hl : l.length ≤ 9223372036854775806) (hok : ∀ y ∈ l, okT45 y) (hm : l.all (mayI 40) = true) (hs : (l.flatMap (encI 40)).length < 90000000) : Ev (fun k => gangwayref5_Bytes.f k l) (l.flatMap (encI 40) ++ [11]) := by
  refine Ev.bd (body_ev 40 l hl hok hm (by omega)) ?_
  exact Ev.ifp (by omega) (Ev.now _)
end Go.Proofs.Ytlahigmoljflkaa.Q
