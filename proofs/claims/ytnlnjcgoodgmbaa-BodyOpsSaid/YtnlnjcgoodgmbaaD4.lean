/- THE DEN MACHINE, fourth part: how the relation goes on when objects are made, written, frozen, and given up. -/
import Derived.Test.YtnlnjcgoodgmbaaD3
set_option linter.unusedVariables false
set_option linter.unusedSectionVars false
namespace Go.Proofs.YtnlnjcgoodgmbaaM
open Go.RowKit Go.Proofs.YtnlnjcgoodgmbaaW.PrintWords
open Tys Tab Kds
variable [Tys] [Tab] [Kds]
section
variable {C : Ctx} {E E' : Nat → Value} {Im Im' : Nat → Prop} {s : St} {a : Act} {w w' : World} {nx nx' : Nat} {v : Value} {o o' : Ob}
def ext (E : Nat → Value) (n : Nat) (v : Value) : Nat → Value := fun i => if i = n then v else E i
theorem Same.refl (w : World) : Same w w := ⟨rfl, rfl, rfl⟩
theorem Same.trans {w w1 w2 : World} (h : Same w w1) (h' : Same w1 w2) : Same w w2 := ⟨h'.1.trans h.1, h'.2.1.trans h.2.1, h'.2.2.trans h.2.2⟩
theorem ext_self {n : Nat} : ext E n v n = v := if_pos rfl
theorem ext_lt {n i : Nat} (h : i < n) : ext E n v i = E i := if_neg (by omega)
theorem ObRel.step (h : ObRel E nx w Im v o) (hw : ∀ k, Im k → k < w.heap.size → w'.heap[k]? = w.heap[k]?) (hm : ∀ k, o.mb v = some k → k < w.heap.size → w'.heap[k]? = w.heap[k]?) (hi : ∀ k, Im k → Im' k) (hE : ∀ i, i < nx → E' i = E i) (hn : nx ≤ nx') : ObRel E' nx' w' Im' v o := by
  cases o with
  | box t cs =>
    obtain ⟨g, vs, rfl, h1, h2, h3⟩ := h
    refine ⟨g, vs, rfl, ?_, RepL.step hw hi hE hn _ _ h2, h3⟩
    have hlt : g < w.heap.size := (Array.getElem?_eq_some_iff.1 h1).1
    rw [hm g rfl hlt]
    exact h1
  | arr t e xs =>
    obtain ⟨⟨g, vs, rfl, h1, h2, h3⟩, h4⟩ := h
    refine ⟨⟨g, vs, rfl, ?_, fun E nx => RepL.step hw hi (fun _ _ => rfl) (Nat.le_refl _) _ _ (h2 E nx), h3⟩, h4⟩
    have hlt : g < w.heap.size := (Array.getElem?_eq_some_iff.1 h1).1
    rw [hm g rfl hlt]
    exact h1
  | map t k e es =>
    obtain ⟨g, ms, clk, rfl, h1, h2, h3⟩ := h
    refine ⟨g, ms, clk, rfl, ?_, h2, EntRel.step hw hi _ _ h3⟩
    have hlt : g < w.heap.size := (Array.getElem?_eq_some_iff.1 h1).1
    rw [hm g rfl hlt]
    exact h1
  | row t xs => exact Kd.N_mono (Kd.N_step h (fun k hk hlt => hk.elim (fun e => hm k e.symm hlt) (fun e => hw k e hlt))) (fun k hk => hk.imp id (hi k))
  | fro t xs => exact Rep.step hw hi hE hn _ _ h
  | dead => trivial
theorem ObRel.lt (h : ObRel E nx w Im v o) {k : Nat} (hk : o.mb v = some k) : k < w.heap.size := by
  cases o with
  | box t cs =>
    obtain ⟨g, vs, rfl, h1, _⟩ := h
    have e : g = k := by simpa [Ob.mb] using hk
    subst e
    exact (Array.getElem?_eq_some_iff.1 h1).1
  | row t xs => exact Kd.N_lt h k hk
  | arr t e xs =>
    obtain ⟨⟨g, vs, rfl, h1, _⟩, _⟩ := h
    have e : g = k := by simpa [Ob.mb] using hk
    subst e
    exact (Array.getElem?_eq_some_iff.1 h1).1
  | map t k' e es =>
    obtain ⟨g, ms, clk, rfl, h1, _⟩ := h
    have e : g = k := by simpa [Ob.mb] using hk
    subst e
    exact (Array.getElem?_eq_some_iff.1 h1).1
  | fro t xs => simp [Ob.mb] at hk
  | dead => simp [Ob.mb] at hk
theorem SRel.step (h : SRel E Im s a w) {s' : St} (hsl : s'.sl = s.sl) (hsn : s'.n = s.n) (hw : ∀ k, Im k → k < w.heap.size → w'.heap[k]? = w.heap[k]?) (hi : ∀ k, Im k → Im' k) (hE : ∀ i, i < s.nx → E' i = E i) (hn : s.nx ≤ s'.nx) : SRel E' Im' s' a w' := by
  refine ⟨fun i x hx => ?_, fun i x hx => ?_, by rw [hsn]; exact h.n, h.defers⟩
  · rw [hsl] at hx
    obtain ⟨u, hu, hr⟩ := h.sl i x hx
    exact ⟨u, hu, Rep.step hw hi hE hn _ _ hr⟩
  · rw [hsl] at hx
    rw [hsn]
    exact h.lt i x hx
/-- A new object, in new blocks. -/
theorem Rel.new (h : Rel C E Im s a w) (hS : Same w w') (hw : ∀ k, k < w.heap.size → w'.heap[k]? = w.heap[k]?) (hs : w.heap.size ≤ w'.heap.size) (v : Value) (o : Ob) (hob : ObRel (ext E s.nx v) (s.nx + 1) w' Im v o) (hmb : ∀ k, o.mb v = some k → w.heap.size ≤ k) :
    Rel C (ext E s.nx v) Im (s.new o) a w' := by
  have hI : ∀ k, Im k → k < w.heap.size → w'.heap[k]? = w.heap[k]? := fun k _ hk => hw k hk
  have hEE : ∀ i, i < s.nx → ext E s.nx v i = E i := fun i hi => ext_lt hi
  refine ⟨⟨fun k hk => Nat.lt_of_lt_of_le (h.h.im k hk) hs, ?_, ?_, ?_, ?_, Nat.le_trans h.h.size hs, ?_, h.h.same.trans hS, h.h.imo, Nat.le_succ_of_le h.h.np, fun q hq => (ext_lt (Nat.lt_of_lt_of_le hq h.h.np)).trans (h.h.e0 q hq), h.h.im0⟩, h.s.step rfl rfl hI (fun _ hk => hk) hEE (Nat.le_succ _), h.n⟩
  · intro i q hq
    simp only [St.new] at hq ⊢
    rw [get_cons] at hq
    split at hq
    · rename_i e
      injection hq with hq
      subst hq
      subst e
      rw [ext_self]
      exact ⟨Nat.lt_succ_self _, hob⟩
    · have := h.h.ob i q hq
      refine ⟨by omega, ?_⟩
      rw [hEE i this.1]
      exact this.2.step hI (fun k _ hk => hw k hk) (fun _ hk => hk) hEE (Nat.le_succ _)
  · intro i j oi oj k hij hi hj hk
    simp only [St.new] at hi hj
    rw [get_cons] at hi hj
    split at hi
    · rename_i e
      injection hi with hi
      subst hi
      subst e
      rw [ext_self] at hk
      have := hmb k hk
      rw [if_neg (fun e => hij e.symm)] at hj
      have h2 := h.h.ob j oj hj
      rw [hEE j h2.1]
      intro e
      have := h2.2.lt e
      omega
    · have h1 := h.h.ob i oi hi
      rw [hEE i h1.1] at hk
      split at hj
      · rename_i e
        injection hj with hj
        subst hj
        subst e
        rw [ext_self]
        intro e
        have := hmb k e
        have := h1.2.lt hk
        omega
      · have h2 := h.h.ob j oj hj
        rw [hEE j h2.1]
        exact h.h.dis i j oi oj k hij hi hj hk
  · intro i q k hq hk
    simp only [St.new] at hq
    rw [get_cons] at hq
    split at hq
    · rename_i e
      injection hq with hq
      subst hq
      subst e
      rw [ext_self] at hk
      intro hik
      have := hmb k hk
      have := h.h.im k hik
      omega
    · have h1 := h.h.ob i q hq
      rw [hEE i h1.1] at hk
      exact h.h.imd i q k hq hk
  · intro i q k hq hk
    simp only [St.new] at hq
    rw [get_cons] at hq
    split at hq
    · rename_i e
      injection hq with hq
      subst hq
      subst e
      rw [ext_self] at hk
      exact ⟨.inr (Nat.le_trans h.h.size (hmb k hk)), hob.lt hk⟩
    · have h1 := h.h.ob i q hq
      rw [hEE i h1.1] at hk
      have := h.h.mu i q k hq hk
      exact ⟨this.1, Nat.lt_of_lt_of_le this.2 hs⟩
  · intro k hk hm
    rw [hw k (Nat.lt_of_lt_of_le hk h.h.size)]
    exact h.h.frame k hk hm
/-- An object becomes another one, at its place: its block alone may be written, Im may grow by it. -/
theorem Rel.turn (h : Rel C E Im s a w) {i : Nat} (hi : get s.hp i = some o) (hS : Same w w') (hIm : ∀ k, Im k → Im' k) (hIm2 : ∀ k, Im' k → Im k ∨ o.mb (E i) = some k) (hw : ∀ k, k < w.heap.size → o.mb (E i) ≠ some k → w'.heap[k]? = w.heap[k]?) (hs : w.heap.size ≤ w'.heap.size)
    (hob : ObRel E s.nx w' Im' (E i) o') (hmb : ∀ k, o'.mb (E i) = some k → o.mb (E i) = some k ∧ ¬ Im' k) : Rel C E Im' (s.obj i o') a w' := by
  have hI : ∀ k, Im k → k < w.heap.size → w'.heap[k]? = w.heap[k]? := fun k hk hlt => hw k hlt (fun e => h.h.imd i o k hi e hk)
  have hin := (h.h.ob i o hi).1
  refine ⟨⟨fun k hk => ?_, ?_, ?_, ?_, ?_, Nat.le_trans h.h.size hs, ?_, h.h.same.trans hS, fun k hk => (hIm2 k hk).elim (h.h.imo k) (fun e => .inr (h.h.mu i o k hi e).1), h.h.np, h.h.e0, fun k hk => hIm k (h.h.im0 k hk)⟩, h.s.step rfl rfl hI hIm (fun _ _ => rfl) (Nat.le_refl _), h.n⟩
  · rcases hIm2 k hk with hk | hk
    · exact Nat.lt_of_lt_of_le (h.h.im k hk) hs
    · exact Nat.lt_of_lt_of_le (h.h.mu i o k hi hk).2 hs
  · intro j q hq
    simp only [St.obj] at hq ⊢
    rw [get_cons] at hq
    split at hq
    · rename_i e
      injection hq with hq
      subst hq
      subst e
      exact ⟨hin, hob⟩
    · rename_i e
      have := h.h.ob j q hq
      exact ⟨this.1, this.2.step hI (fun k hk hlt => hw k hlt (fun e' => h.h.dis i j o q k (fun e2 => e e2.symm) hi hq e' hk)) hIm (fun _ _ => rfl) (Nat.le_refl _)⟩
  · intro j j' oj oj' k hjj hj hj' hk
    simp only [St.obj] at hj hj'
    rw [get_cons] at hj hj'
    split at hj
    · rename_i e
      injection hj with hj
      subst hj
      subst e
      rw [if_neg (fun e => hjj e.symm)] at hj'
      exact h.h.dis _ _ _ _ k hjj hi hj' (hmb k hk).1
    · split at hj'
      · rename_i e
        injection hj' with hj'
        subst hj'
        subst e
        intro e2
        exact h.h.dis _ _ _ _ k hjj hj hi hk (hmb k e2).1
      · exact h.h.dis _ _ _ _ k hjj hj hj' hk
  · intro j q k hq hk
    simp only [St.obj] at hq
    rw [get_cons] at hq
    split at hq
    · rename_i e
      injection hq with hq
      subst hq
      subst e
      exact (hmb k hk).2
    · rename_i e
      intro hik
      rcases hIm2 k hik with hik | hik
      · exact h.h.imd j q k hq hk hik
      · exact h.h.dis i j o q k (fun e2 => e e2.symm) hi hq hik hk
  · intro j q k hq hk
    simp only [St.obj] at hq
    rw [get_cons] at hq
    split at hq
    · rename_i e
      injection hq with hq
      subst hq
      subst e
      have := h.h.mu _ _ k hi (hmb k hk).1
      exact ⟨this.1, Nat.lt_of_lt_of_le this.2 hs⟩
    · have := h.h.mu j q k hq hk
      exact ⟨this.1, Nat.lt_of_lt_of_le this.2 hs⟩
  · intro k hk hm
    rw [hw k (Nat.lt_of_lt_of_le hk h.h.size) (fun e => by
      rcases (h.h.mu i o k hi e).1 with h1 | h1
      · exact hm h1
      · omega)]
    exact h.h.frame k hk hm
/-- An object is given up, a new one stands in its block or in new ones. -/
theorem Rel.replace (h : Rel C E Im s a w) {i : Nat} (hi : get s.hp i = some o) (hS : Same w w') (hw : ∀ k, k < w.heap.size → o.mb (E i) ≠ some k → w'.heap[k]? = w.heap[k]?) (hs : w.heap.size ≤ w'.heap.size) (v : Value) (o' : Ob)
    (hob : ObRel (ext E s.nx v) (s.nx + 1) w' Im v o') (hmb : ∀ k, o'.mb v = some k → o.mb (E i) = some k ∨ w.heap.size ≤ k) : Rel C (ext E s.nx v) Im ((s.obj i .dead).new o') a w' := by
  have hI : ∀ k, Im k → k < w.heap.size → w'.heap[k]? = w.heap[k]? := fun k hk hlt => hw k hlt (fun e => h.h.imd i o k hi e hk)
  have hEE : ∀ i, i < s.nx → ext E s.nx v i = E i := fun i hi => ext_lt hi
  have hin := (h.h.ob i o hi).1
  -- what stood elsewhere
  have old : ∀ j q, get ((s.obj i .dead).new o').hp j = some q → (j = s.nx ∧ q = o') ∨ (q = .dead ∧ j < s.nx) ∨ (j ≠ i ∧ get s.hp j = some q ∧ j < s.nx) := by
    intro j q hq
    simp only [St.new, St.obj] at hq
    rw [get_cons] at hq
    split at hq
    · rename_i e
      injection hq with hq
      exact .inl ⟨e, hq.symm⟩
    · rw [get_cons] at hq
      split at hq
      · rename_i e
        injection hq with hq
        exact .inr (.inl ⟨hq.symm, by omega⟩)
      · rename_i e
        exact .inr (.inr ⟨e, hq, (h.h.ob j q hq).1⟩)
  have mbd : ∀ u k, (Ob.dead : Ob).mb u = some k → False := fun u k hk => by simp [Ob.mb] at hk
  refine ⟨⟨fun k hk => Nat.lt_of_lt_of_le (h.h.im k hk) hs, ?_, ?_, ?_, ?_, Nat.le_trans h.h.size hs, ?_, h.h.same.trans hS, h.h.imo, Nat.le_succ_of_le h.h.np, fun q hq => (ext_lt (Nat.lt_of_lt_of_le hq h.h.np)).trans (h.h.e0 q hq), h.h.im0⟩, h.s.step rfl rfl hI (fun _ hk => hk) hEE (Nat.le_succ _), h.n⟩
  · intro j q hq
    show j < s.nx + 1 ∧ _
    rcases old j q hq with ⟨rfl, rfl⟩ | ⟨rfl, hj⟩ | ⟨hji, hq, hj⟩
    · exact ⟨Nat.lt_succ_self _, by rw [ext_self]; exact hob⟩
    · exact ⟨by omega, trivial⟩
    · refine ⟨by omega, ?_⟩
      rw [hEE j hj]
      exact (h.h.ob j q hq).2.step hI (fun k hk hlt => hw k hlt (fun e' => h.h.dis i j o q k (fun e2 => hji e2.symm) hi hq e' hk)) (fun _ hk => hk) hEE (Nat.le_succ _)
  · intro j j' q q' k hjj hq hq' hk
    rcases old j q hq with ⟨rfl, rfl⟩ | ⟨rfl, hj⟩ | ⟨hji, hq2, hj⟩
    · rw [ext_self] at hk
      rcases old j' q' hq' with ⟨rfl, rfl⟩ | ⟨rfl, hj'⟩ | ⟨hji', hq2', hj'⟩
      · exact absurd rfl hjj
      · exact fun e => mbd _ _ e
      · rw [hEE j' hj']
        intro e
        rcases hmb k hk with h1 | h1
        · exact h.h.dis i j' o q' k (fun e2 => hji' e2.symm) hi hq2' h1 e
        · have := (h.h.ob j' q' hq2').2.lt e
          omega
    · exact absurd hk (fun e => mbd _ _ e)
    · rw [hEE j hj] at hk
      rcases old j' q' hq' with ⟨rfl, rfl⟩ | ⟨rfl, hj'⟩ | ⟨hji', hq2', hj'⟩
      · rw [ext_self]
        intro e
        rcases hmb k e with h1 | h1
        · exact h.h.dis i j o q k (fun e2 => hji e2.symm) hi hq2 h1 hk
        · have := (h.h.ob j q hq2).2.lt hk
          omega
      · exact fun e => mbd _ _ e
      · rw [hEE j' hj']
        exact h.h.dis j j' q q' k hjj hq2 hq2' hk
  · intro j q k hq hk
    rcases old j q hq with ⟨rfl, rfl⟩ | ⟨rfl, hj⟩ | ⟨hji, hq, hj⟩
    · rw [ext_self] at hk
      intro hik
      rcases hmb k hk with h1 | h1
      · exact h.h.imd i o k hi h1 hik
      · have := h.h.im k hik
        omega
    · exact absurd hk (fun e => mbd _ _ e)
    · rw [hEE j hj] at hk
      exact h.h.imd j q k hq hk
  · intro j q k hq hk
    rcases old j q hq with ⟨rfl, rfl⟩ | ⟨rfl, hj⟩ | ⟨hji, hq, hj⟩
    · rw [ext_self] at hk
      refine ⟨?_, hob.lt hk⟩
      rcases hmb k hk with h1 | h1
      · exact (h.h.mu i o k hi h1).1
      · exact .inr (Nat.le_trans h.h.size h1)
    · exact absurd hk (fun e => mbd _ _ e)
    · rw [hEE j hj] at hk
      have := h.h.mu j q k hq hk
      exact ⟨this.1, Nat.lt_of_lt_of_le this.2 hs⟩
  · intro k hk hm
    rw [hw k (Nat.lt_of_lt_of_le hk h.h.size) (fun e => by
      rcases (h.h.mu i o k hi e).1 with h1 | h1
      · exact hm h1
      · omega)]
    exact h.h.frame k hk hm
theorem look_some {i : Nat} (h : s.look i = o) (hne : o ≠ .dead) : get s.hp i = some o := by
  unfold St.look at h
  split at h
  · rename_i q hq
    rw [hq, h]
  · exact absurd h.symm hne
/-- A row is frozen. -/
theorem Rel.freeze (h : Rel C E Im s a w) {i t : Nat} {xs : List (El t)} (hi : s.look i = .row t xs) : Rel C E (fun k => Im k ∨ (E i).ownBlock = some k) (s.obj i (.fro t xs)) a w := by
  have hg := look_some hi (by simp)
  have hN : Kd.N (kd t) t w 0 (fun k => some k = (E i).ownBlock ∨ Im k) (E i) xs := (h.h.ob i _ hg).2
  refine h.turn hg (Same.refl _) (fun k hk => .inl hk) (fun k hk => hk) (fun k _ _ => rfl) (Nat.le_refl _) ?_ (fun k hk => by simp [Ob.mb] at hk)
  obtain ⟨A, c, he, hl, _⟩ := Kd.N_reads hN
  refine ⟨A, c, he, hl, ?_⟩
  rw [he] at hN ⊢
  exact Kd.F_mono (Kd.N_F hN) (fun k hk => hk.elim (fun e => .inr e.symm) .inl)
end
end Go.Proofs.YtnlnjcgoodgmbaaM
