/- THE DEN MACHINE, twelfth part: calls of functions that are shown. -/
import Derived.Test.YtnlnjcgoodgmbaaD11
set_option linter.unusedVariables false
set_option linter.unusedSectionVars false
namespace Go.Proofs.YtnlnjcgoodgmbaaM
open Go.RowKit Go.Proofs.YtnlnjcgoodgmbaaW.PrintWords Go.Proofs.YtnlnjcgoodgmbaaW.PrintLast
open Tys Tab Kds
variable [Tys] [Tab] [Kds]
section
variable {P : Program} {C : Ctx} {E E' : Nat → Value} {Im Im' Imc Imc' : Nat → Prop} {s : St} {a : Act} {w w' : World} {nx nc : Nat} {hp : List (Nat × Ob)} {m : List Nat} {obs0 obs' : List Ob}
theorem HRel.other (h : HRel C E Im nx hp w) (n : Nat) : HRel ⟨C.w0, C.M0, C.I0, C.np, C.E0, n⟩ E Im nx hp w := ⟨h.im, h.ob, h.dis, h.imd, h.mu, h.size, h.frame, h.same, h.imo, h.np, h.e0, h.im0⟩
/-- What a function is known to answer. -/
def FOk (P : Program) (f : Nat) (cps : Cps) : Prop := (∃ fn, P.funcs[f]? = some fn ∧ (fn.name == "runtime.NumGoroutine") = false ∧ fn.body.isSome = true) ∧
  ∀ (ρ : Type) args obs (Kf : AV → List Ob → Option ρ) (r : ρ), cps ρ args obs Kf = some r → ∀ E Im w (vals : List Value), HRel (ctx0 w obs E Im 0) E Im obs.length (hpFrom 0 obs) w → RepL E obs.length w Im args vals →
    Calls P f vals.toArray w (fun e w' => ∃ v E' Im' res obs', e = .returned v ∧ Kf res obs' = some r ∧ HRel (ctx0 w obs E Im 0) E' Im' obs'.length (hpFrom 0 obs') w' ∧ Rep E' obs'.length w' Im' res v)
theorem frz_ok : ∀ (l : List Nat) (s : St) (Im : Nat → Prop), Rel C E Im s a w → ∃ Im', (∀ k, Im k → Im' k) ∧ Rel C E Im' (frzS l s) a w ∧ (∀ i, (frzS l s).look i = s.look i ∨ ∃ t xs, (frzS l s).look i = .fro t xs) ∧ (frzS l s).nx = s.nx
  | [], s, Im, h => ⟨Im, fun _ hk => hk, h, fun i => .inl rfl, rfl⟩
  | i :: l, s, Im, h => by
    unfold frzS
    split
    · rename_i t xs hl
      obtain ⟨Im', h1, h2, h3, h4⟩ := frz_ok l _ _ (h.freeze hl)
      refine ⟨Im', fun k hk => h1 k (.inl hk), h2, fun j => ?_, h4⟩
      rcases h3 j with e | e
      · rw [e]
        by_cases hj : j = i
        · subst hj
          exact .inr ⟨t, xs, by unfold St.look St.obj; rw [get_cons, if_pos rfl]⟩
        · exact .inl (by unfold St.look St.obj; rw [get_cons, if_neg hj])
      · exact .inr e
    · exact frz_ok l s Im h
theorem allLt_ok : ∀ {l : List Nat} {n : Nat}, allLt l n = true → ∀ i ∈ l, i < n
  | [], n, _, i, hi => by cases hi
  | j :: l, n, h, i, hi => by
    unfold allLt at h
    split at h
    · rename_i hb
      rcases List.mem_cons.1 hi with e | hi
      · rw [e]; simpa [Nat.blt_eq] using hb
      · exact allLt_ok h i hi
    · cases h
/-- The places behind a call. -/
def Eb (E : Nat → Value) (nx ml : Nat) (E' : Nat → Value) : Nat → Value := fun i => if i < nx then E i else E' (ml + (i - nx))
theorem bkI_lt {q : Nat} (hlt : ∀ i ∈ m, i < nx) (hq : q < nc) (hn : m.length ≤ nc) : bkI m nx q < nx + (nc - m.length) := by
  unfold bkI
  split
  · rename_i i hi
    have := hlt i (List.mem_of_getElem? hi)
    omega
  · rename_i hi
    have := List.getElem?_eq_none_iff.1 hi
    omega
theorem Eb_bkI {q : Nat} (hlt : ∀ i ∈ m, i < nx) (he : ∀ q, q < m.length → E' q = En E m q) : Eb E nx m.length E' (bkI m nx q) = E' q := by
  unfold bkI Eb
  split
  · rename_i i hi
    rw [if_pos (hlt i (List.mem_of_getElem? hi)), he q (List.getElem?_eq_some_iff.1 hi).1]
    unfold En
    rw [hi]
  · rename_i hi
    have := List.getElem?_eq_none_iff.1 hi
    rw [if_neg (by omega)]
    congr 1
    omega
theorem bkH_get (m : List Nat) (nx : Nat) (hp : List (Nat × Ob)) : ∀ (obs : List Ob) (k i : Nat) (o : Ob), get (bkH m nx k obs hp) i = some o → (∃ q o0, obs[q]? = some o0 ∧ i = bkI m nx (k + q) ∧ o = bkO m nx o0) ∨ ((∀ q, q < obs.length → i ≠ bkI m nx (k + q)) ∧ get hp i = some o)
  | [], k, i, o, h => .inr ⟨fun q hq => by simp at hq, h⟩
  | x :: obs, k, i, o, h => by
    unfold bkH at h
    rw [get_cons] at h
    by_cases e : i = bkI m nx k
    · rw [if_pos e] at h
      injection h with h
      exact .inl ⟨0, x, rfl, e, h.symm⟩
    · rw [if_neg e] at h
      rcases bkH_get m nx hp obs (k + 1) i o h with ⟨q, o0, h1, h2, h3⟩ | ⟨h1, h2⟩
      · exact .inl ⟨q + 1, o0, by rw [List.getElem?_cons_succ]; exact h1, by rw [h2]; congr 1; omega, h3⟩
      · refine .inr ⟨fun q hq => ?_, h2⟩
        cases q with
        | zero => exact e
        | succ q => 
          have := h1 q (by simpa using hq)
          rw [show k + (q + 1) = k + 1 + q by omega]
          exact this
theorem bkL_len (m : List Nat) (nx : Nat) : ∀ l : List AV, (bkL m nx l).length = l.length
  | [] => rfl
  | v :: l => by unfold bkL; rw [List.length_cons, List.length_cons, bkL_len m nx l]
section
mutual
theorem bk_rep {E1 : Nat → Value} {n1 : Nat} (hE : ∀ q, q < nc → E1 (bkI m nx q) = E' q ∧ bkI m nx q < n1) : ∀ (v : AV) (u : Value), Rep E' nc w Im v u → Rep E1 n1 w Im (bkV m nx v) u
  | .int k n, u, h => h
  | .bl p d, u, h => h
  | .bo b, u, h => h
  | .str b, u, h => h
  | .nili, u, h => h
  | .nils, u, h => h
  | .nilp, u, h => h
  | .ro t xs, u, h => h
  | .lost, u, h => trivial
  | .agg l, u, h => by
    obtain ⟨cs, e, h1, h2⟩ := h
    exact ⟨cs, e, bkL_rep hE l cs h1, h2⟩
  | .tup l, u, h => by
    obtain ⟨cs, e, h1⟩ := h
    exact ⟨cs, e, bkL_rep hE l cs h1⟩
  | .fn f l, u, h => by
    obtain ⟨cs, e, h1⟩ := h
    exact ⟨cs, e, bkL_rep hE l cs h1⟩
  | .rop cs, u, h => by
    obtain ⟨a, vs, e, h1, h2, h3, h4⟩ := h
    exact ⟨a, vs, e, h1, h2, bkL_rep hE cs vs h3, h4⟩
  | .ifc t v, u, h => by
    obtain ⟨u', e, h1⟩ := h
    exact ⟨u', e, bk_rep hE v u' h1⟩
  | .elp i t j off, u, h => by
    obtain ⟨h1, g, n, c, h2, h3⟩ := h
    exact ⟨(hE i h1).2, g, n, c, by rw [(hE i h1).1]; exact h2, h3⟩
  | .ela i t e j off, u, h => trivial
  | .cut i lo n, u, h => trivial
  | .nilf, u, h => h
  | .nilm, u, h => h
  | .bm f l, u, h => by
    obtain ⟨cs, e, h1⟩ := h
    exact ⟨cs, e, bkL_rep hE l cs h1⟩
  | .vro t cs, u, h => by
    obtain ⟨a, vs, e, h1, h2, h3, h4⟩ := h
    refine ⟨a, vs, ?_, h1, h2, bkL_rep hE cs vs h3, h4⟩
    rw [e, bkL_len]
  | .mp i, u, h => by
    obtain ⟨h1, h2, h3⟩ := h
    exact ⟨(hE i h1).2, by rw [(hE i h1).1]; exact h2, h3⟩
  | .own i, u, h => by
    obtain ⟨h1, h2, h3⟩ := h
    exact ⟨(hE i h1).2, by rw [(hE i h1).1]; exact h2, h3⟩
  | .ptr i off, u, h => by
    obtain ⟨h1, g, h2, h3⟩ := h
    exact ⟨(hE i h1).2, g, by rw [(hE i h1).1]; exact h2, h3⟩
theorem bkL_rep {E1 : Nat → Value} {n1 : Nat} (hE : ∀ q, q < nc → E1 (bkI m nx q) = E' q ∧ bkI m nx q < n1) : ∀ (l : List AV) (us : List Value), RepL E' nc w Im l us → RepL E1 n1 w Im (bkL m nx l) us
  | [], us, h => h
  | v :: l, us, h => by
    obtain ⟨u, us', e, h1, h2⟩ := h
    exact ⟨u, us', e, bk_rep hE v u h1, bkL_rep hE l us' h2⟩
end
end
mutual
theorem flat_rep : ∀ (v : AV) (u : Value), flatV v = true → Rep E nx w Im v u → Rep E nx w Im' v u
  | .int k n, u, _, h => h
  | .bl p d, u, _, h => h
  | .bo b, u, _, h => h
  | .str b, u, _, h => h
  | .nili, u, _, h => h
  | .nils, u, _, h => h
  | .nilp, u, _, h => h
  | .ro t xs, u, f, h => by simp [flatV] at f
  | .lost, u, _, h => trivial
  | .agg l, u, f, h => by
    obtain ⟨cs, e, h1, h2⟩ := h
    exact ⟨cs, e, flatL_rep l cs (by simpa [flatV] using f) h1, h2⟩
  | .tup l, u, f, h => by
    obtain ⟨cs, e, h1⟩ := h
    exact ⟨cs, e, flatL_rep l cs (by simpa [flatV] using f) h1⟩
  | .fn g l, u, f, h => by
    obtain ⟨cs, e, h1⟩ := h
    exact ⟨cs, e, flatL_rep l cs (by simpa [flatV] using f) h1⟩
  | .rop cs, u, f, h => by simp [flatV] at f
  | .ifc t v, u, f, h => by
    obtain ⟨u', e, h1⟩ := h
    exact ⟨u', e, flat_rep v u' (by simpa [flatV] using f) h1⟩
  | .nilf, u, _, h => h
  | .nilm, u, _, h => h
  | .mp i, u, _, h => h
  | .bm g l, u, f, h => by
    obtain ⟨cs, e, h1⟩ := h
    exact ⟨cs, e, flatL_rep l cs (by simpa [flatV] using f) h1⟩
  | .vro t cs, u, f, h => by simp [flatV] at f
  | .elp i t j off, u, _, h => h
  | .ela i t e j off, u, _, h => h
  | .cut i lo n, u, _, h => h
  | .own i, u, _, h => h
  | .ptr i off, u, _, h => h
theorem flatL_rep : ∀ (l : List AV) (us : List Value), flatL l = true → RepL E nx w Im l us → RepL E nx w Im' l us
  | [], us, _, h => h
  | v :: l, us, f, h => by
    obtain ⟨u, us', e, h1, h2⟩ := h
    unfold flatL at f
    split at f
    · rename_i hv
      exact ⟨u, us', e, flat_rep v u hv h1, flatL_rep l us' f h2⟩
    · cases f
end
theorem flat_ob [Laws P] {v : Value} {o : Ob} (f : flatO o = true) (h : ObRel E nx w Im v o) : ObRel E nx w Im' v o := by
  cases o with
  | box t cs =>
    obtain ⟨g, vs, e, h1, h2, h3⟩ := h
    exact ⟨g, vs, e, h1, flatL_rep cs vs f h2, h3⟩
  | row t xs =>
    obtain ⟨h0, rows, hl, hR, hf⟩ := h
    exact ⟨fun k hk => .inl hk.symm, rows, hl, hR, fun j x c hx hc => Kd.FK_mono (Laws.flat (P := P) t x c w _ f (hf j x c hx hc)) (fun _ h => h.elim)⟩
  | arr t e xs => simp [flatO] at f
  | map t k e es => simp [flatO] at f
  | fro t xs => simp [flatO] at f
  | dead => trivial
theorem flatOs_get : ∀ {l : List Ob} {q : Nat} {o : Ob}, flatOs l = true → l[q]? = some o → flatO o = true
  | [], q, o, _, h => by simp at h
  | x :: l, q, o, f, h => by
    unfold flatOs at f
    split at f
    · rename_i hx
      cases q with
      | zero => 
        rw [List.getElem?_cons_zero] at h
        injection h with h
        rw [← h]; exact hx
      | succ q => exact flatOs_get f (by rwa [List.getElem?_cons_succ] at h)
    · cases f
theorem mb_bkO {o : Ob} {v : Value} : (bkO m nx o).mb v = o.mb v := by
  cases o with
  | box t cs => 
    show (Ob.box t (bkL m nx cs)).mb v = (Ob.box t cs).mb v
    unfold Ob.mb
    split <;> simp_all
  | _ => rfl
theorem bk_ob {E1 : Nat → Value} {n1 : Nat} (hE : ∀ q, q < nc → E1 (bkI m nx q) = E' q ∧ bkI m nx q < n1) {v : Value} {o : Ob} (h : ObRel E' nc w Im v o) : ObRel E1 n1 w Im v (bkO m nx o) := by
  cases o with
  | box t cs =>
    obtain ⟨g, vs, e, h1, h2, h3⟩ := h
    exact ⟨g, vs, e, h1, bkL_rep hE cs vs h2, h3⟩
  | row t xs => exact h
  | arr t e xs => exact h
  | map t k e es => exact h
  | fro t xs => exact h
  | dead => trivial
/-- A caller's heap behind a call. -/
theorem HRel.back (hH : HRel C E Im nx hp w) (hm : m.Nodup) (hlt : ∀ i ∈ m, i < nx) (hl0 : obs0.length = m.length) (hb0 : ∀ k, mbs obs0 (En E m) k → ∃ i ∈ m, ∃ o, get hp i = some o ∧ o.mb (E i) = some k)
    {n : Nat} (hC : HRel (ctx0 w obs0 (En E m) Imc n) E' Imc' obs'.length (hpFrom 0 obs') w') (h1 : ∀ k, Im k → Im' k) (h2 : ∀ k, Im' k → Imc' k) (h3 : ∀ k, Im' k → Im k ∨ mbs obs0 (En E m) k ∨ w.heap.size ≤ k) (hle : m.length ≤ obs'.length)
    (hob : ∀ q o, obs'[q]? = some o → ObRel (Eb E nx m.length E') (nx + (obs'.length - m.length)) w' Im' (E' q) (bkO m nx o)) :
    HRel C (Eb E nx m.length E') Im' (nx + (obs'.length - m.length)) (bkH m nx 0 obs' hp) w' := by
  have he : ∀ q, q < m.length → E' q = En E m q := fun q hq => hC.e0 q (by show q < obs0.length; omega)
  have hEb : ∀ q, Eb E nx m.length E' (bkI m nx q) = E' q := fun q => Eb_bkI hlt he
  have hElt : ∀ i, i < nx → Eb E nx m.length E' i = E i := fun i hi => if_pos hi
  have hsz : w.heap.size ≤ w'.heap.size := hC.size
  have hfr : ∀ k, k < w.heap.size → ¬ mbs obs0 (En E m) k → w'.heap[k]? = w.heap[k]? := hC.frame
  have hIm : ∀ k, Im k → ¬ mbs obs0 (En E m) k := fun k hk hb => by
    obtain ⟨i, _, o, h4, h5⟩ := hb0 k hb
    exact hH.imd i o k h4 h5 hk
  have hold : ∀ i o, get hp i = some o → (∀ q, q < obs'.length → i ≠ bkI m nx (0 + q)) → ∀ k, o.mb (E i) = some k → ¬ mbs obs0 (En E m) k := fun i o hi hne k hk hb => by
    obtain ⟨j, hj, o', h4, h5⟩ := hb0 k hb
    obtain ⟨q, hq⟩ := List.mem_iff_getElem?.1 hj
    have hq' := (List.getElem?_eq_some_iff.1 hq).1
    refine hH.dis i j o o' k (fun e => hne q (by omega) ?_) hi h4 hk h5
    rw [Nat.zero_add, e]
    unfold bkI
    rw [hq]
  have hcmu : ∀ (q : Nat) (o : Ob) (k : Nat), obs'[q]? = some o → o.mb (E' q) = some k → (mbs obs0 (En E m) k ∨ w.heap.size ≤ k) ∧ k < w'.heap.size := fun q o k hq hk => hC.mu q o k (by rw [hp0_get]; exact hq) hk
  have hmM : ∀ k, mbs obs0 (En E m) k → (C.M0 k ∨ C.w0.heap.size ≤ k) ∧ k < w.heap.size := fun k hb => by
    obtain ⟨i, _, o, h4, h5⟩ := hb0 k hb
    exact hH.mu i o k h4 h5
  refine ⟨fun k hk => hC.im k (h2 k hk), fun i o h => ?_, fun i j oi oj k hij hi hj hk hk' => ?_, fun i o k h hk => ?_, fun i o k h hk => ?_, Nat.le_trans hH.size hsz, fun k hk hM => ?_, Same.trans hH.same hC.same, fun k hk => ?_, Nat.le_trans hH.np (by omega), fun q hq => ?_, fun k hk => h1 k (hH.im0 k hk)⟩
  · rcases bkH_get m nx hp obs' 0 i o h with ⟨q, o0, h4, rfl, rfl⟩ | ⟨h4, h5⟩
    · rw [Nat.zero_add, hEb]
      exact ⟨bkI_lt hlt (List.getElem?_eq_some_iff.1 h4).1 hle, hob q o0 h4⟩
    · obtain ⟨h6, h7⟩ := hH.ob i o h5
      refine ⟨by omega, ?_⟩
      rw [hElt i h6]
      exact h7.step (fun k hk hl => hfr k hl (hIm k hk)) (fun k hk hl => hfr k hl (hold i o h5 h4 k hk)) h1 hElt (by omega)
  · rcases bkH_get m nx hp obs' 0 i oi hi with ⟨p, o0, h4, rfl, rfl⟩ | ⟨h4, h5⟩ <;> rcases bkH_get m nx hp obs' 0 j oj hj with ⟨q, o1, h6, rfl, rfl⟩ | ⟨h6, h7⟩
    · rw [Nat.zero_add, hEb, mb_bkO] at hk hk'
      exact hC.dis p q o0 o1 k (fun e => hij (by rw [e])) (by rw [hp0_get]; exact h4) (by rw [hp0_get]; exact h6) hk hk'
    · rw [Nat.zero_add, hEb, mb_bkO] at hk
      rw [hElt j (hH.ob j oj h7).1] at hk'
      rcases (hcmu p o0 k h4 hk).1 with hb | hb
      · exact hold j oj h7 h6 k hk' hb
      · have := (hH.mu j oj k h7 hk').2
        omega
    · rw [Nat.zero_add, hEb, mb_bkO] at hk'
      rw [hElt i (hH.ob i oi h5).1] at hk
      rcases (hcmu q o1 k h6 hk').1 with hb | hb
      · exact hold i oi h5 h4 k hk hb
      · have := (hH.mu i oi k h5 hk).2
        omega
    · rw [hElt i (hH.ob i oi h5).1] at hk
      rw [hElt j (hH.ob j oj h7).1] at hk'
      exact hH.dis i j oi oj k hij h5 h7 hk hk'
  · rcases bkH_get m nx hp obs' 0 i o h with ⟨q, o0, h4, rfl, rfl⟩ | ⟨h4, h5⟩
    · rw [Nat.zero_add, hEb, mb_bkO] at hk
      exact fun hi => hC.imd q o0 k (by rw [hp0_get]; exact h4) hk (h2 k hi)
    · rw [hElt i (hH.ob i o h5).1] at hk
      intro hi
      rcases h3 k hi with h6 | h6 | h6
      · exact hH.imd i o k h5 hk h6
      · exact hold i o h5 h4 k hk h6
      · have := (hH.mu i o k h5 hk).2
        omega
  · rcases bkH_get m nx hp obs' 0 i o h with ⟨q, o0, h4, rfl, rfl⟩ | ⟨h4, h5⟩
    · rw [Nat.zero_add, hEb, mb_bkO] at hk
      obtain ⟨h6, h7⟩ := hcmu q o0 k h4 hk
      refine ⟨?_, h7⟩
      rcases h6 with h6 | h6
      · exact (hmM k h6).1
      · exact .inr (Nat.le_trans hH.size h6)
    · rw [hElt i (hH.ob i o h5).1] at hk
      obtain ⟨h6, h7⟩ := hH.mu i o k h5 hk
      exact ⟨h6, by omega⟩
  · refine (hfr k (Nat.lt_of_lt_of_le hk hH.size) fun hb => ?_).trans (hH.frame k hk hM)
    rcases (hmM k hb).1 with h4 | h4
    · exact hM h4
    · omega
  · rcases h3 k hk with h4 | h4 | h4
    · exact hH.imo k h4
    · exact .inr ((hmM k h4).1)
    · exact .inr (.inr (Nat.le_trans hH.size h4))
  · rw [hElt q (Nat.lt_of_lt_of_le hq hH.np)]
    exact hH.e0 q hq
theorem mbs_at {s1 : St} (m : List Nat) {k : Nat} (h : mbs (obsOf s1 m m) (En E m) k) : ∃ i ∈ m, (s1.look i).mb (E i) = some k := by
  obtain ⟨q, o, h1, h2⟩ := h
  rw [obsOf_get] at h1
  obtain ⟨i, hi, rfl⟩ := Option.map_eq_some_iff.1 h1
  rw [mb_rnO] at h2
  refine ⟨i, List.mem_of_getElem? hi, ?_⟩
  have e : En E m q = E i := by unfold En; rw [hi]
  rwa [e] at h2
theorem mb_look {s1 : St} {i k : Nat} {v : Value} (h : (s1.look i).mb v = some k) : get s1.hp i = some (s1.look i) := by
  rcases look_get (s := s1) (i := i) with e | e
  · exact e
  · rw [e] at h; simp [Ob.mb] at h
theorem callK_ok [Laws P] {ρ : Type} {r : ρ} {f : Nat} {cps : Cps} (hF : FOk P f cps) {md : List Bool} {vs : List AV} {K : AV → St → Option ρ} {vals : List Value} (h : callK cps md vs s K = some r) (hR : Rel C E Im s a w) (hA : RepL E s.nx w Im vs vals) :
    Calls P f vals.toArray w (fun e w' => ∃ v E' Im' res s', e = .returned v ∧ K res s' = some r ∧ Rel C E' Im' s' a w' ∧ Rep E' s'.nx w' Im' res v ∧ (ord (frzS (lentIds md vs) s) 1000 (idsL vs) [] = [] → Cls w w')) := by
  unfold callK callF callM at h
  obtain ⟨Imc, hi, hR1, hlk, hnx⟩ := frz_ok (lentIds md vs) s Im hR
  generalize frzS (lentIds md vs) s = s1 at h hR1 hlk hnx
  generalize ord s1 1000 (idsL vs) [] = m at h
  split at h
  · cases h
  rename_i hnd
  have hm := nodupB_ok hnd
  split at h
  · cases h
  rename_i hal
  have hlt := allLt_ok hal
  have hlt1 : ∀ i ∈ m, i < s1.nx := fun i hi => by rw [hnx]; exact hlt i hi
  have hlen : (obsOf s1 m m).length = m.length := obsOf_len s1 m m
  have hA1 : RepL (En E m) (obsOf s1 m m).length w Imc (rnL s1 m vs) vals := by
    rw [hlen]
    exact rnL_rep (s := s1) hR1.h.fro m vs vals (RepL.step (fun _ _ _ => rfl) hi (fun _ _ => rfl) (by omega) vs vals hA)
  have hH1 : HRel (ctx0 w (obsOf s1 m m) (En E m) Imc 0) (En E m) Imc (obsOf s1 m m).length (hpFrom 0 (obsOf s1 m m)) w := by
    have hc := HRel.canon (C := ⟨C.w0, C.M0, C.I0, 0, C.E0, 0⟩) (E := E) (Im := Imc) (s := s1) (w := w) ⟨hR1.h.im, hR1.h.ob, hR1.h.dis, hR1.h.imd, hR1.h.mu, hR1.h.size, hR1.h.frame, hR1.h.same, hR1.h.imo, Nat.zero_le _, fun q hq => absurd hq (Nat.not_lt_zero _), hR1.h.im0⟩ hm (fun q hq => absurd hq (Nat.not_lt_zero _))
    rw [← hlen] at hc
    exact ⟨hc.im, hc.ob, hc.dis, hc.imd, fun i o k hg hk => ⟨.inl ⟨i, o, by rw [hp0_get] at hg; exact hg, hk⟩, (hc.mu i o k hg hk).2⟩, Nat.le_refl _, fun _ _ _ => rfl, Same.refl _, fun k hk => .inl hk, Nat.le_refl _, fun _ _ => rfl, fun _ hk => hk⟩
  refine (hF.2 ρ _ _ _ r h (En E m) Imc w vals hH1 hA1).mono fun e w' hh => ?_
  obtain ⟨v, E', Imc', res, obs', rfl, hk, hC, hv⟩ := hh
  have hcls : m = [] → Cls w w' := fun e => by
    subst e
    refine ⟨hC.same, hC.size, fun k hk => hC.frame k hk ?_⟩
    rintro ⟨i, o, h4, _⟩
    simp [obsOf] at h4
  have hb1 : ∀ k, mbs (obsOf s1 m m) (En E m) k → ∃ i ∈ m, ∃ o, get s1.hp i = some o ∧ o.mb (E i) = some k := fun k hb => by
    obtain ⟨i, h1, h2⟩ := mbs_at m hb
    exact ⟨i, h1, _, mb_look h2, h2⟩
  have hb2 : ∀ k, mbs (obsOf s1 m m) (En E m) k → ∃ i ∈ m, ∃ o, get s.hp i = some o ∧ o.mb (E i) = some k := fun k hb => by
    obtain ⟨i, h1, h2⟩ := mbs_at m hb
    rcases hlk i with e | ⟨t, xs, e⟩
    · rw [e] at h2
      exact ⟨i, h1, _, mb_look h2, h2⟩
    · rw [e] at h2; simp [Ob.mb] at h2
  have he : ∀ q, q < m.length → E' q = En E m q := fun q hq => hC.e0 q (by show q < (obsOf s1 m m).length; omega)
  have hfr : ∀ k, k < w.heap.size → ¬ mbs (obsOf s1 m m) (En E m) k → w'.heap[k]? = w.heap[k]? := hC.frame
  split at hk
  · cases hk
  rename_i hle
  have hle : m.length ≤ obs'.length := by simpa [Nat.ble_eq] using hle
  have hE2 : ∀ q, q < obs'.length → Eb E s.nx m.length E' (bkI m s.nx q) = E' q ∧ bkI m s.nx q < s.nx + (obs'.length - m.length) := fun q hq => ⟨Eb_bkI hlt he, bkI_lt hlt hq hle⟩
  have hEl : ∀ i, i < s.nx → Eb E s.nx m.length E' i = E i := fun i hi => if_pos hi
  have hImf : ∀ k, Imc k → k < w.heap.size → w'.heap[k]? = w.heap[k]? := fun k hk hl => hfr k hl fun hb => by
    obtain ⟨i, _, o, h4, h5⟩ := hb1 k hb
    exact hR1.h.imd i o k h4 h5 hk
  have lent : K (bkV m s.nx res) { s1 with hp := bkH m s.nx 0 obs' s1.hp, nx := s.nx + (obs'.length - m.length) } = some r → ∃ v_1 E' Im' res s', Ending.returned v = .returned v_1 ∧ K res s' = some r ∧ Rel C E' Im' s' a w' ∧ Rep E' s'.nx w' Im' res v_1 ∧ (m = [] → Cls w w') := fun hk => by
    refine ⟨v, Eb E s.nx m.length E', Imc', _, _, rfl, hk, ⟨?_, ?_, hR1.n⟩, bk_rep hE2 res v hv, hcls⟩
    · have := HRel.back (Im' := Imc') hR1.h hm hlt1 hlen hb1 hC (fun k hk => hC.im0 k hk) (fun k hk => hk) (fun k hk => hC.imo k hk) hle (fun q o hq => by rw [hnx]; exact bk_ob hE2 (hC.ob q o (by rw [hp0_get]; exact hq)).2)
      rw [hnx] at this
      exact this
    · exact SRel.step hR1.s rfl rfl hImf (fun k hk => hC.im0 k hk) (fun i hi => hEl i (by omega)) (by show s1.nx ≤ s.nx + (obs'.length - m.length); omega)
  split at hk
  · rename_i hfv
    split at hk
    · rename_i hfo
      refine ⟨v, Eb E s.nx m.length E', Im, _, _, rfl, hk, ⟨?_, ?_, hR.n⟩, bk_rep hE2 res v (flat_rep res v hfv hv), hcls⟩
      · exact HRel.back (Im' := Im) hR.h hm hlt hlen hb2 hC (fun k hk => hk) (fun k hk => hC.im0 k (hi k hk)) (fun k hk => .inl hk) hle (fun q o hq => bk_ob hE2 (flat_ob (P := P) (flatOs_get hfo hq) (hC.ob q o (by rw [hp0_get]; exact hq)).2))
      · exact SRel.step hR.s rfl rfl (fun k hk hl => hImf k (hi k hk) hl) (fun k hk => hk) hEl (Nat.le_add_right _ _)
    · exact lent hk
  · exact lent hk
/-- Calls by a table. -/
def orcL {ρ : Type} : List (Nat × Cps × List Bool) → Orc ρ
  | [], _, _, _, _ => none
  | e :: l, f, vs, s, K => match Nat.beq f e.1 with
    | true => callK e.2.1 e.2.2 vs s K
    | false => orcL l f vs s K
theorem orcL_ok [Laws P] {ρ : Type} (r : ρ) (C : Ctx) : ∀ (l : List (Nat × Cps × List Bool)), (∀ e ∈ l, FOk P e.1 e.2.1) → OOk P C (orcL l) r
  | [], _ => fun f vs s K h => by cases h
  | e :: l, hl => fun f vs s K h => by
    unfold orcL at h
    split at h
    · rename_i hb
      rw [Nat.eq_of_beq_eq_true hb]
      have hF := hl e List.mem_cons_self
      exact ⟨hF.1, fun E Im a w vals hR hA => (callK_ok hF h hR hA).mono fun e w' hh => by
        obtain ⟨v, E', Im', res, s', h1, h2, h3, h4, _⟩ := hh
        exact ⟨v, E', Im', res, s', h1, h2, h3, h4⟩⟩
    · exact orcL_ok r C l (fun x hx => hl x (List.mem_cons_of_mem _ hx)) f vs s K h
/-- Calls by a table, handed no object. -/
def orcN {ρ : Type} : List (Nat × Cps × List Bool) → Orc ρ
  | [], _, _, _, _ => none
  | e :: l, f, vs, s, K => match Nat.beq f e.1 with
    | true => callN e.2.1 e.2.2 vs s K
    | false => orcN l f vs s K
theorem orcN_ok [Laws P] {ρ : Type} (r : ρ) (C : Ctx) : ∀ (l : List (Nat × Cps × List Bool)), (∀ e ∈ l, FOk P e.1 e.2.1) → OOkN P C (orcN l) r
  | [], _ => fun f vs s K h => by cases h
  | e :: l, hl => fun f vs s K h => by
    unfold orcN at h
    split at h
    · rename_i hb
      rw [Nat.eq_of_beq_eq_true hb]
      have hF := hl e List.mem_cons_self
      unfold callN at h
      have h' : callK e.2.1 e.2.2 vs s K = some r ∧ ord (frzS (lentIds e.2.2 vs) s) 1000 (idsL vs) [] = [] := by
        generalize ord (frzS (lentIds e.2.2 vs) s) 1000 (idsL vs) [] = m at h
        cases m with
        | nil => exact ⟨h, rfl⟩
        | cons _ _ => cases h
      exact ⟨hF.1, fun E Im a w vals hR hA => (callK_ok hF h'.1 hR hA).mono fun en w' hh => by
        obtain ⟨v, E', Im', res, s', h1, h2, h3, h4, h5⟩ := hh
        exact ⟨v, E', Im', res, s', h1, h2, h3, h4, h5 h'.2⟩⟩
    · exact orcN_ok r C l (fun x hx => hl x (List.mem_cons_of_mem _ hx)) f vs s K h
theorem amb1 {ρ : Type} (x : Option ρ) : ambL [x] = x := rfl
theorem amb2 {ρ : Type} (x : Option ρ) : ambL [x, x] = x := if_pos rfl
theorem amb3 {ρ : Type} (x : Option ρ) : ambL [x, x, x] = x := if_pos (amb2 x).symm
theorem amb4 {ρ : Type} (x : Option ρ) : ambL [x, x, x, x] = x := if_pos (amb3 x).symm
theorem inB_bind {α β : Type} (i : Int) (n : Nat) (x : Option α) (f : α → Option β) : (inB i n x).bind f = inB i n (x.bind f) := by
  unfold inB
  split
  · split <;> rfl
  · rfl
theorem some_bind_ {α β : Type} (x : α) (f : α → Option β) : (some x).bind f = f x := rfl
end
end Go.Proofs.YtnlnjcgoodgmbaaM
