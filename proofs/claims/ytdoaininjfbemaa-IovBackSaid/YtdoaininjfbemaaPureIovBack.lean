/- What is scattered over pieces that do not lie over one another is gathered; beside them all stays: for every list of asks. -/
import Derived.Test.YtdoaininjfbemaaPAllx11
import Derived.Test.YtdoaininjfbemaaPAllx2
import Derived.Test.YtdoaininjfbemaaPAllx9
import Derived.Test.YtdoaininjfbemaaPAllx7
import Derived.Test.YtdoaininjfbemaaQIov
namespace Go.Proofs.Ytdoaininjfbemaa.QK
open Go.RowKit Go.Proofs.Ytdoaininjfbemaa.PAll Go.Proofs.YtdoaininjfbemaaW.PrintWords Go.Proofs.YtdoaininjfbemaaW.PrintLast Go.Proofs.YtdoaininjfbemaaW.PrintMore Go.Proofs.YtdoaininjfbemaaU Go.Proofs.Ytdoaininjfbemaa.Q
set_option linter.unusedVariables false
set_option linter.unusedSectionVars false

/-- Pieces one behind the other, from lo to hi. -/
def IncTo : Int → List S50 → Int → Prop
  | lo, [], hi => lo ≤ hi
  | lo, x :: r, hi => lo ≤ x.f0 ∧ 0 ≤ x.f1 ∧ IncTo (x.f0 + x.f1) r hi
theorem IncTo.snoc {n hi hi' : Int} (hn : 0 ≤ n) (hh : hi + n ≤ hi') : ∀ (X : List S50) (lo : Int), IncTo lo X hi → IncTo lo (X ++ [⟨hi, n⟩]) hi'
  | [], lo, h => ⟨h, hn, hh⟩
  | x :: r, lo, h => ⟨h.1, h.2.1, IncTo.snoc hn hh r _ h.2.2⟩
theorem IncTo.le {hi : Int} : ∀ (X : List S50) (lo : Int), IncTo lo X hi → lo ≤ hi
  | [], lo, h => h
  | x :: r, lo, h => by
    have := IncTo.le r _ h.2.2
    have h1 := h.1
    have h2 := h.2.1
    omega
theorem IncTo.mem {hi : Int} : ∀ (X : List S50) (lo : Int), IncTo lo X hi → ∀ x ∈ X, lo ≤ x.f0 ∧ 0 ≤ x.f1 ∧ x.f0 + x.f1 ≤ hi
  | [], lo, _, x, hx => by cases hx
  | y :: r, lo, h, x, hx => by
    rcases List.mem_cons.1 hx with rfl | hx
    · exact ⟨h.1, h.2.1, IncTo.le r _ h.2.2⟩
    · have := IncTo.mem r _ h.2.2 x hx
      have h1 := h.1
      have h2 := h.2.1
      omega
theorem IncTo.qm {lo hi : Int} {X : List S50} (h : IncTo lo X hi) (h0 : 0 ≤ lo) (h1 : hi ≤ 65536) : X.all qm = true :=
  List.all_eq_true.2 fun x hx => (qm_iff x).2 (by have := h.mem X lo x hx; omega)
def inP (X : List S50) (k : Int) : Bool := X.any fun x => decide (x.f0 ≤ k ∧ k < x.f0 + x.f1)
theorem splice_get (M p : List Int) (a i : Nat) (h : a + p.length ≤ M.length) : (splice M a p)[i]? = if i < a then M[i]? else if i < a + p.length then p[i - a]? else M[i]? := by
  unfold splice
  have h1 : (M.take a).length = a := by rw [List.length_take]; omega
  have h2 : (M.take a ++ p).length = a + p.length := by rw [List.length_append, h1]
  by_cases hi : i < a
  · rw [if_pos hi, List.getElem?_append_left (by omega), List.getElem?_append_left (by omega), List.getElem?_take, if_pos hi]
  · rw [if_neg hi]
    by_cases hj : i < a + p.length
    · rw [if_pos hj, List.getElem?_append_left (by omega), List.getElem?_append_right (by omega), h1]
    · rw [if_neg hj, List.getElem?_append_right (by omega), h2, List.getElem?_drop]
      congr 1
      omega
theorem sct_out (B : List Int) : ∀ (X : List S50) (p : Nat) (M : List Int), X.all qm = true → p ≤ B.length → M.length = 65536 → ∀ i : Nat, inP X (i : Int) = false → (sct B X p M).2[i]? = M[i]?
  | [], p, M, _, _, _, i, _ => rfl
  | x :: r, p, M, h, hp, hM, i, hi => by
    rw [List.all_cons, Bool.and_eq_true] at h
    have h1 := (qm_iff x).1 h.1
    unfold inP at hi
    rw [List.any_cons, Bool.or_eq_false_iff] at hi
    have hi1 : ¬ (x.f0 ≤ (i : Int) ∧ (i : Int) < x.f0 + x.f1) := by simpa using hi.1
    have hkl : ((B.take (p + min x.f1.toNat (B.length - p))).drop p).length = min x.f1.toNat (B.length - p) := by rw [List.length_drop, List.length_take]; omega
    rw [sct, sct_out B r _ _ h.2 (by omega) (by rw [splice_length (by omega)]; exact hM) i hi.2, splice_get _ _ _ _ (by omega)]
    by_cases ha : i < x.f0.toNat
    · rw [if_pos ha]
    · rw [if_neg ha, if_neg (by omega)]
theorem sct_fst (B : List Int) : ∀ (X : List S50) (p : Nat) (M : List Int), X.all qm = true → p ≤ B.length → ((sct B X p M).1 : Int) = min ((p : Int) + sum X) (B.length : Int)
  | [], p, M, _, hp => by
    rw [sct, sum]
    show (p : Int) = _
    omega
  | x :: r, p, M, h, hp => by
    rw [List.all_cons, Bool.and_eq_true] at h
    have h1 := (qm_iff x).1 h.1
    have h2 := sum_bd r h.2
    rw [sct, sct_fst B r _ _ h.2 (by omega), sum]
    omega
theorem gat_sct (B : List Int) : ∀ (X : List S50) (lo hi : Int) (p : Nat) (M : List Int), IncTo lo X hi → 0 ≤ lo → hi ≤ 65536 → p ≤ B.length → M.length = 65536 →
    (gat (sct B X p M).2 X).take ((sct B X p M).1 - p) = (B.drop p).take ((sct B X p M).1 - p)
  | [], lo, hi, p, M, _, _, _, _, _ => by
    rw [sct]
    show ([] : List Int).take (p - p) = (B.drop p).take (p - p)
    rw [Nat.sub_self, List.take_zero, List.take_zero]
  | x :: r, lo, hi, p, M, h, h0, hh, hp, hM => by
    have hq := h.qm h0 hh
    rw [List.all_cons, Bool.and_eq_true] at hq
    have h1 := (qm_iff x).1 hq.1
    have hr := h.2.2
    rw [sct]
    generalize hk : min x.f1.toNat (B.length - p) = k
    have hkl : ((B.take (p + k)).drop p).length = k := by rw [List.length_drop, List.length_take]; omega
    have hM1 : (splice M x.f0.toNat ((B.take (p + k)).drop p)).length = 65536 := by rw [splice_length (by omega)]; exact hM
    have ih := gat_sct B r (x.f0 + x.f1) hi (p + k) (splice M x.f0.toNat ((B.take (p + k)).drop p)) hr (by omega) hh (by omega) hM1
    have hfst := sct_fst B r (p + k) (splice M x.f0.toNat ((B.take (p + k)).drop p)) hq.2 (by omega)
    have hout := sct_out B r (p + k) (splice M x.f0.toNat ((B.take (p + k)).drop p)) hq.2 (by omega) hM1
    have hsb := sum_bd r hq.2
    have hlen2 := sct_len B r (p + k) (splice M x.f0.toNat ((B.take (p + k)).drop p)) hq.2 (by omega) hM1
    have hgl := gat_len _ hlen2 r hq.2
    generalize hS : sct B r (p + k) (splice M x.f0.toNat ((B.take (p + k)).drop p)) = S at *
    have hseg : seg S.2 x.f0.toNat x.f1.toNat = seg (splice M x.f0.toNat ((B.take (p + k)).drop p)) x.f0.toNat x.f1.toNat := by
      apply List.ext_getElem?
      intro i
      rw [Go.Proofs.Ytdoaininjfbemaa.Q.seg_get, Go.Proofs.Ytdoaininjfbemaa.Q.seg_get]
      by_cases hi : i < x.f1.toNat
      · rw [if_pos hi, if_pos hi]
        apply hout
        unfold inP
        rw [List.any_eq_false]
        intro y hy
        have := IncTo.mem r _ hr y hy
        simp only [decide_eq_true_eq]
        omega
      · rw [if_neg hi, if_neg hi]
    have hw : (seg (splice M x.f0.toNat ((B.take (p + k)).drop p)) x.f0.toNat x.f1.toNat).take k = (B.take (p + k)).drop p := by
      apply List.ext_getElem?
      intro i
      rw [List.getElem?_take]
      by_cases hi : i < k
      · rw [if_pos hi, Go.Proofs.Ytdoaininjfbemaa.Q.seg_get, if_pos (by omega), splice_get _ _ _ _ (by omega), if_neg (by omega), if_pos (by omega)]
        congr 1
        omega
      · rw [if_neg hi, List.getElem?_eq_none (by omega)]
    have hsl : (seg (splice M x.f0.toNat ((B.take (p + k)).drop p)) x.f0.toNat x.f1.toNat).length = x.f1.toNat := seg_len (by omega)
    rw [gat, hseg]
    have hd : (B.take (p + k)).drop p = (B.drop p).take k := by rw [List.drop_take, Nat.add_sub_cancel_left]
    by_cases hf : k = x.f1.toNat
    · have hw2 : seg (splice M x.f0.toNat ((B.take (p + k)).drop p)) x.f0.toNat x.f1.toNat = (B.drop p).take k := by
        have h9 := hw
        rw [List.take_of_length_le (by omega)] at h9
        rw [h9, hd]
      have hkl2 : ((B.drop p).take k).length = k := by rw [← hd]; exact hkl
      rw [hw2, List.take_append, List.take_of_length_le (by rw [hkl2]; omega), hkl2, show S.1 - p - k = S.1 - (p + k) by omega, ih, show S.1 - p = k + (S.1 - (p + k)) by omega, List.take_add]
      congr 1
      rw [List.drop_drop]
    · have hk2 : p + k = B.length := by omega
      have hS1 : S.1 - p = k := by omega
      rw [hS1, List.take_append_of_le_length (by omega), hw, hd]
section
variable (x0 : List S26) (i : Nat) (hi : i < 1000000000000000)
variable (g : Ev (fun k => gangwaylaw19_IovBack.l0 k x0 ((i + 1 : Nat) : Int)) true)
include hi g
section
variable (X : List S50) (hX : X.length ≤ 10) (lo hi' : Int) (hI : IncTo lo X hi') (h0 : 0 ≤ lo) (hh : hi' ≤ 65536) (M M' : List Int) (hM : M.length = 65536) (hM' : M'.length = 65536)
variable (hout : ∀ q : Nat, inP X (q : Int) = false → M'[q]? = M[q]?)
include hX hI h0 hh hM hM' hout
theorem l3_ (q : Nat) (hq : q < 65536) (c : Int) (e : Ev (fun k => gangwaylaw19_IovBack.j6 k x0 (i : Int) X M' (q : Int) false M c) true) : ∀ (d j : Nat), j + d = X.length → ∀ b : Bool, ((b || inP (X.drop j) (q : Int)) = false → M'[q]? = M[q]?) → Ev (fun k => gangwaylaw19_IovBack.l3 k x0 (i : Int) X M' (q : Int) b (j : Int) M c) true := by
  intro d
  induction d with
  | zero =>
    intro j hj b hb
    refine Ev.step (fun k => gangwaylaw19_IovBack.l3.eq_2 _ _ _ _ _ _ _ _ _ _) (Ev.ifn (by omega) ?_)
    cases b with
    | true => exact Ev.ifp rfl e
    | false =>
      rw [List.drop_of_length_le (by omega)] at hb
      have h := hb rfl
      refine Ev.ifn Bool.false_ne_true (Ev.ifp (by omega) (Ev.ifp (by omega) (Ev.ifp (by omega) ?_)))
      have hrd : rd M' (q : Int) = rd M (q : Int) := by
        rw [rd_nat, rd_nat, List.getD_eq_getElem?_getD, List.getD_eq_getElem?_getD, h]
      rw [hrd, bne_self_eq_false]
      exact e
  | succ d ih =>
    intro j hj b hb
    have hjl : j < X.length := by omega
    have hm := IncTo.mem X lo hI X[j] (List.getElem_mem hjl)
    refine Ev.step (fun k => gangwaylaw19_IovBack.l3.eq_2 _ _ _ _ _ _ _ _ _ _) (Ev.ifp (by omega) ?_)
    rw [w64 (x := (j : Int) + 1) (by omega) (by omega), show (j : Int) + 1 = ((j + 1 : Nat) : Int) by omega]
    cases b with
    | true => exact Ev.ifp rfl (ih (j + 1) (by omega) true (fun h => by simp at h))
    | false =>
      have hd : inP (X.drop j) (q : Int) = (decide (X[j].f0 ≤ (q : Int) ∧ (q : Int) < X[j].f0 + X[j].f1) || inP (X.drop (j + 1)) (q : Int)) := by
        rw [List.drop_eq_getElem_cons hjl]
        rfl
      rw [hd, Bool.false_or] at hb
      refine Ev.ifn Bool.false_ne_true (Ev.ifp (by omega) ?_)
      rw [rdp X j hjl, w64 (x := X[j].f0 + X[j].f1) (by omega) (by omega)]
      by_cases h1 : (q : Int) ≥ X[j].f0
      · refine Ev.ifp h1 (ih (j + 1) (by omega) _ fun h => hb ?_)
        rw [← h]
        congr 1
        simp only [decide_eq_decide]
        omega
      · refine Ev.ifn h1 (ih (j + 1) (by omega) false fun h => hb ?_)
        rw [← h, decide_eq_false (by omega)]
theorem l2_ (c : Int) : ∀ (d q : Nat), 65536 ≤ q + d → q ≤ 65536 → Ev (fun k => gangwaylaw19_IovBack.l2 k x0 (i : Int) X M' (q : Int) M c) true := by
  have fin : ∀ q : Nat, 65536 ≤ q → Ev (fun k => gangwaylaw19_IovBack.l2 k x0 (i : Int) X M' (q : Int) M c) true := by
    intro q hq
    refine Ev.step (fun k => gangwaylaw19_IovBack.l2.eq_2 _ _ _ _ _ _ _ _) (Ev.ifn (by omega) ?_)
    rw [w64 (by omega) (by omega), show (i : Int) + 1 = ((i + 1 : Nat) : Int) by omega]
    exact g
  intro d
  induction d with
  | zero =>
    intro q hq hq2
    exact fin q (by omega)
  | succ d ih =>
    intro q hq hq2
    by_cases h : q < 65536
    · have e1 := ih (q + 1) (by omega) (by omega)
      have e6 : Ev (fun k => gangwaylaw19_IovBack.j6 k x0 (i : Int) X M' (q : Int) false M c) true := by
        refine Ev.step (fun k => gangwaylaw19_IovBack.j6.eq_2 _ _ _ _ _ _ _ _ _) (Ev.ifn Bool.false_ne_true ?_)
        rw [w64 (x := (q : Int) + 1) (by omega) (by omega), show (q : Int) + 1 = ((q + 1 : Nat) : Int) by omega, w64 (x := (M'.length : Int) - 5) (by omega) (by omega), w64 (x := (M'.length : Int) - 5 + 1) (by omega) (by omega)]
        by_cases h1 : (q : Int) > 1000
        · refine Ev.ifp h1 ?_
          by_cases h2 : (q : Int) < (M'.length : Int) - 5
          · have e2 := ih 65532 (by omega) (by omega)
            refine Ev.ifp h2 ?_
            rw [show (M'.length : Int) - 5 + 1 = ((65532 : Nat) : Int) by omega]
            exact e2
          · exact Ev.ifn h2 e1
        · exact Ev.ifn h1 e1
      refine Ev.step (fun k => gangwaylaw19_IovBack.l2.eq_2 _ _ _ _ _ _ _ _) (Ev.ifp (by omega) ?_)
      exact l3_ x0 i hi g X hX lo hi' hI h0 hh M M' hM hM' hout q h c e6 X.length 0 (by omega) false (fun hf => by
        rw [List.drop_zero, Bool.false_or] at hf
        exact hout q hf)
    · exact fin q (by omega)
end
theorem j3_ (X : List S50) (hX : X.length ≤ 10) (hi' : Int) (hI : IncTo 100 X hi') (hh : hi' ≤ 65536) (M : List Int) (hM : M.length = 65536) (m : List Int) (a n : Int) (P : List S50) (B : List Int) (hB : B.length ≤ 5000) : Ev (fun k => gangwaylaw19_IovBack.j3 k x0 (i : Int) X (sum X) m a n P B M 1 M 1) true := by
  have ha := hI.qm (by omega) hh
  have hl := sct_len B X 0 M ha (by omega) hM
  have e1 := scatter_ev M hM 1 X (by omega) B (by omega)
  rw [if_pos ha, if_pos ha, if_pos ha] at e1
  have hf := sct_fst B X 0 M ha (by omega)
  have hg := gat_sct B X 100 hi' 0 M hI (by omega) hh (by omega) hM
  have ho := sct_out B X 0 M ha (by omega) hM
  generalize sct B X 0 M = S at *
  have e2 := gather_ev S.2 hl 1 X (by omega)
  rw [if_pos ha, if_pos ha] at e2
  have e3 := total_ev X (by omega)
  have hs := sum_bd X ha
  rw [tot_ok X 0 ha (by omega) (by omega), Int.zero_add] at e3
  have hgl := gat_len S.2 hl X ha
  rw [Nat.sub_zero, List.drop_zero] at hg
  have hrd := read_ok (l := S.2) (a := 0) (n := (M.length : Int)) 1 (by omega) (by omega)
  rw [show ((0 : Int) + (M.length : Int)).toNat = S.2.length by omega, show (0 : Int).toNat = 0 from rfl, List.take_length, List.drop_zero] at hrd
  refine Ev.step (fun k => gangwaylaw19_IovBack.j3.eq_2 _ _ _ _ _ _ _ _ _ _ _ _ _ _) (Ev.bd e1 (Ev.bd e2 (Ev.bd e3 (Ev.val (v := 0) rfl (Ev.ifp rfl (Ev.val (v := 0) rfl (Ev.ifp rfl (Ev.val (v := 0) rfl (Ev.ifp rfl (Ev.ifp rfl (Ev.ifp hgl (Ev.ifp ?_ (Ev.ifp (by dsimp only; omega) (Ev.ifp (by dsimp only; omega) (Ev.ifp (by dsimp only; omega) ?_)))))))))))))))
  · unfold mn
    dsimp only
    split <;> omega
  · dsimp only
    rw [Int.toNat_natCast, hg]
    refine Ev.bd (Ev.big ((B.take S.1).length + 1) fun k hk => eqb_ev (B.take S.1) (B.take S.1) (by rw [List.length_take]; omega) k (by omega)) ?_
    rw [decide_eq_true rfl]
    refine Ev.ifp rfl (Ev.val hrd (Ev.val (v := 0) rfl (Ev.ifp rfl (Ev.ifp (by dsimp only; omega) ?_))))
    exact l2_ x0 i hi g X hX 100 hi' hI (by omega) hh M S.2 hM hl ho 1 65536 0 (by omega) (by omega)
theorem l1_ (M : List Int) (hM : M.length = 65536) (m : List Int) (a n : Int) (P : List S50) (hP : P.length ≤ 500) (B : List Int) (hB : B.length ≤ 5000) : ∀ (d j : Nat), j + d = 10 → ∀ (X : List S50) (at_ : Int), X.length = j → IncTo 100 X at_ → at_ ≤ 100 + 40 * (j : Int) → Ev (fun k => gangwaylaw19_IovBack.l1 k x0 (i : Int) X at_ (sum X) (j : Int) m a n P B M 1 M 1) true := by
  intro d
  induction d with
  | zero =>
    intro j hj X at_ hX hI hat
    have e := j3_ x0 i hi g X (by omega) at_ hI (by omega) M hM m a n P B hB
    refine Ev.step (fun k => gangwaylaw19_IovBack.l1.eq_2 _ _ _ _ _ _ _ _ _ _ _ _ _ _ _ _) ?_
    by_cases h : (j : Int) < (P.length : Int)
    · exact Ev.ifp h (Ev.ifn (by omega) e)
    · exact Ev.ifn h e
  | succ d ih =>
    intro j hj X at_ hX hI hat
    have hge := IncTo.le X 100 hI
    refine Ev.step (fun k => gangwaylaw19_IovBack.l1.eq_2 _ _ _ _ _ _ _ _ _ _ _ _ _ _ _ _) ?_
    by_cases h : (j : Int) < (P.length : Int)
    · refine Ev.ifp h (Ev.ifp (by omega) (Ev.ifp (by omega) (Ev.ifp (by omega) ?_)))
      have hu : 0 ≤ IntKind.u64.wrap (rd_T50 P (j : Int)).f1 := by rw [wu64]; omega
      have ht : Int.tmod (IntKind.u64.wrap (rd_T50 P (j : Int)).f1) 20 = (IntKind.u64.wrap (rd_T50 P (j : Int)).f1) % 20 := Int.tmod_eq_emod_of_nonneg hu
      rw [ht]
      generalize hv : (IntKind.u64.wrap (rd_T50 P (j : Int)).f1) % 20 = v
      have hvb : 0 ≤ v ∧ v < 20 := by omega
      have ha := hI.qm (by omega) (by omega)
      have hs := sum_bd X ha
      rw [w64 (x := v) (by omega) (by omega), w64 (x := at_ + v) (by omega) (by omega), w64 (x := at_ + v + (j : Int)) (by omega) (by omega), w64 (x := sum X + v) (by omega) (by omega), w64 (x := (j : Int) + 1) (by omega) (by omega), show (j : Int) + 1 = ((j + 1 : Nat) : Int) by omega]
      have hs2 : sum X + v = sum (X ++ [⟨at_, v⟩]) := by rw [sum_append]; simp [sum]
      rw [hs2]
      exact ih (j + 1) (by omega) (X ++ [⟨at_, v⟩]) (at_ + v + (j : Int)) (by rw [List.length_append, hX]; rfl) (IncTo.snoc hvb.1 (by omega) X 100 hI) (by omega)
    · exact Ev.ifn h (j3_ x0 i hi g X (by omega) at_ hI (by omega) M hM m a n P B hB)
end
theorem all_ (x0 : List S26) (hx : x0.length < 10000000000000000) (hk : ∀ y ∈ x0, okT26 y) : ∀ (d i : Nat), i + d = 8 → Ev (fun k => gangwaylaw19_IovBack.l0 k x0 (i : Int)) true := by
  have fin : ∀ i : Int, Ev (fun k => gangwaylaw19_IovBack.j1 k x0 i false) true := fun i => by
    refine Ev.step (fun k => gangwaylaw19_IovBack.j1.eq_2 _ _ _ _) (Ev.ifn Bool.false_ne_true ?_)
    exact Ev.bd wakes_ev (Ev.cst rfl)
  intro d
  induction d with
  | zero =>
    intro i hi
    refine Ev.step (fun k => gangwaylaw19_IovBack.l0.eq_2 _ _ _) ?_
    by_cases hlt : (i : Int) < (x0.length : Int)
    · refine Ev.ifp hlt ?_
      rw [decide_eq_false (by omega)]
      exact fin _
    · exact Ev.ifn hlt (fin _)
  | succ d ih =>
    intro i hi
    refine Ev.step (fun k => gangwaylaw19_IovBack.l0.eq_2 _ _ _) ?_
    by_cases hlt : (i : Int) < (x0.length : Int)
    · refine Ev.ifp hlt ?_
      rw [decide_eq_true (show (i : Int) < 8 by omega)]
      refine Ev.step (fun k => gangwaylaw19_IovBack.j1.eq_2 _ _ _ _) (Ev.ifp rfl (Ev.ifp (by omega) (Ev.ifp hlt ?_)))
      have hm : rd_T26 x0 (i : Int) ∈ x0 := by
        unfold rd_T26
        rw [Int.toNat_natCast, List.getD_eq_getElem?_getD, List.getElem?_eq_getElem (by omega)]
        exact List.getElem_mem _
      obtain ⟨⟨h1, h2⟩, h3, h4, ⟨h5, h6⟩, h7, h8⟩ := hk _ hm
      generalize rd_T26 x0 (i : Int) = y at *
      have go := ih (i + 1) (by omega)
      obtain ⟨r, hr, e0⟩ := heavy_ev y.f0 y.f1 y.f2 y.f3 y.f4 (by omega) (by omega) (by omega)
      refine Ev.bd e0 ?_
      cases r with
      | true => exact Ev.ifp rfl (Ev.cst rfl)
      | false =>
        have hb := hr rfl
        have hl := both_len y.f0 (by omega)
        have eb := both_ev y.f0 (by omega) (byt_of h2)
        generalize y.f0 ++ List.replicate (65536 - y.f0.length) (0 : Int) = M at *
        refine Ev.ifn Bool.false_ne_true (Ev.bd eb (Ev.ifp rfl (Ev.ifp rfl ?_)))
        exact l1_ x0 i (by omega) go M hl y.f0 y.f1 y.f2 y.f3 hb.2.2 y.f4 hb.2.1 10 0 (by omega) [] 100 rfl (show (100 : Int) ≤ 100 by omega) (by omega)
    · exact Ev.ifn hlt (fin _)
end Go.Proofs.Ytdoaininjfbemaa.QK
namespace Go.Proofs.Ytdoaininjfbemaa.Pure
open Go.RowKit Go.Proofs.Ytdoaininjfbemaa.PAll Go.Proofs.YtdoaininjfbemaaW.PrintWords Go.Proofs.Ytdoaininjfbemaa.QK
theorem IovBack : gangwaylaw19_IovBack.Pure := by
  intro x0 h
  exact Ev.rounds (all_ x0 (by have := h.1; omega) h.2 8 0 (by omega))
end Go.Proofs.Ytdoaininjfbemaa.Pure
