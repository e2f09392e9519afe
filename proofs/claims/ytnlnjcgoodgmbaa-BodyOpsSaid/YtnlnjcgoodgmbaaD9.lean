/- THE DEN MACHINE, ninth part: calls, regions, code. -/
import Derived.Test.YtnlnjcgoodgmbaaD8
import Derived.Deep.Quiet
set_option linter.unusedVariables false
set_option linter.unusedSectionVars false
namespace Go.Proofs.YtnlnjcgoodgmbaaM
open Go.RowKit Go.Proofs.YtnlnjcgoodgmbaaW.PrintWords Go.Proofs.YtnlnjcgoodgmbaaW.PrintLast
open Tys Tab Kds
variable [Tys] [Tab] [Kds]
section
variable {P : Program} [Laws P] {C : Ctx} {E : Nat → Value} {Im : Nat → Prop} {s : St} {a : Act} {w w' : World} {next : Act → World → Prop} {Q : Exit → Act → World → Prop} {o : Oper} {ρ : Type} {r : ρ} {K : St → Option ρ} {ops : Array Oper} {O : Orc ρ} {OQ : QOrc}
/-- What calls answer is what the program's calls answer. -/
def OOk (P : Program) (C : Ctx) (O : Orc ρ) (r : ρ) : Prop := ∀ f vs s K, O f vs s K = some r → (∃ fn, P.funcs[f]? = some fn ∧ (fn.name == "runtime.NumGoroutine") = false ∧ fn.body.isSome = true) ∧
  ∀ E Im a w (vals : List Value), Rel C E Im s a w → RepL E s.nx w Im vs vals → Calls P f vals.toArray w (fun e w' => ∃ v E' Im' res s', e = .returned v ∧ K res s' = some r ∧ Rel C E' Im' s' a w' ∧ Rep E' s'.nx w' Im' res v)
theorem evs_rep (hR : Rel C E Im s a w) : ∀ (l : List Operand) (vs : List AV), evs s l = some vs → RepL E s.nx w Im vs (l.map a.eval)
  | [], vs, h => by
    unfold evs at h
    injection h with h
    subst h
    rfl
  | x :: l, vs, h => by
    unfold evs at h
    split at h
    · rename_i v vs' hv hvs
      injection h with h
      subst h
      exact ⟨_, _, rfl, hR.eval hv, evs_rep hR l vs' hvs⟩
    · cases h
theorem denil_rep : ∀ (ts : List TypeId) (vs : List AV) (us : List Value), RepL E s.nx w Im vs us → RepL E s.nx w Im (denil ts vs) us
  | [], vs, us, h => by unfold denil; exact h
  | t :: ts, [], us, h => by unfold denil; exact h
  | t :: ts, v :: vs, us, h => by
    obtain ⟨u, us', rfl, hv, hl⟩ := h
    unfold denil
    refine ⟨u, us', rfl, ?_, denil_rep ts vs us' hl⟩
    split
    · split
      · exact ⟨none, 0, hv, Nat.le_refl _, Kd.F_nil _ _ _⟩
      · exact hv
    · exact hv
theorem argsK_rep {ts : List TypeId} {vs : List AV} {us : List Value} (h : RepL E s.nx w Im vs us) : RepL E s.nx w Im (argsK s ts vs) us := by
  unfold argsK
  split
  · exact h
  · exact denil_rep ts vs us h
theorem opC_ok (hO : OOk P C O r) (hw : Region.wanted o (yielded ops a.tmps) = true) (h : opC O o s K = some r) (hR : Rel C E Im s a w) (hn : Goes C r K next) : o.wp P a w next Q := by
  unfold opC at h
  split at h
  · rename_i c ho
    split at h
    · rename_i f hc
      split at h
      · rename_i g caps vs hf hvs
        obtain ⟨cv, ef, hcaps⟩ := (show Rep E s.nx w Im (.fn g caps) (a.eval f) from hR.eval hf)
        have hargs := evs_rep hR _ _ hvs
        obtain ⟨⟨fn, hfn, hname, hbody⟩, hcall⟩ := hO g _ s _ h
        have he := enters_ hfn hname hbody (c.args.map a.eval ++ cv.toArray) w
        have hrun : (execOp a.eval o).run P w = .ok (.enter g (c.args.map a.eval ++ cv.toArray)) w := by
          unfold execOp
          simp [ho, resolve, hc, ef, Deferred.ofValue, invoke, he]
        unfold Oper.wp
        rw [hrun, Oper.upon_enter]
        have hcl := hcall E Im a w (c.args.toList.map a.eval ++ cv) hR (RepL.append (argsK_rep hargs) hcaps)
        have harr : (c.args.toList.map a.eval ++ cv).toArray = c.args.map a.eval ++ cv.toArray := by
          apply Array.ext'
          simp
        rw [harr] at hcl
        refine hcl.mono fun e w'' hh => ?_
        obtain ⟨v, E', Im', res, s', rfl, hk, hR', hv⟩ := hh
        exact hn _ _ _ _ _ hk (hR'.put hv)
      · rename_i g first vs hf hvs
        obtain ⟨cv, ef, hcaps⟩ := (show Rep E s.nx w Im (.bm g first) (a.eval f) from hR.eval hf)
        have hargs := evs_rep hR _ _ hvs
        obtain ⟨⟨fn, hfn, hname, hbody⟩, hcall⟩ := hO g _ s _ h
        have he := enters_ hfn hname hbody (cv.toArray ++ c.args.map a.eval) w
        have hrun : (execOp a.eval o).run P w = .ok (.enter g (cv.toArray ++ c.args.map a.eval)) w := by
          unfold execOp
          simp [ho, resolve, hc, ef, Deferred.ofValue, invoke, he]
        unfold Oper.wp
        rw [hrun, Oper.upon_enter]
        have hcl := hcall E Im a w (cv ++ c.args.toList.map a.eval) hR (RepL.append hcaps (argsK_rep hargs))
        have harr : (cv ++ c.args.toList.map a.eval).toArray = cv.toArray ++ c.args.map a.eval := by
          apply Array.ext'
          simp
        rw [harr] at hcl
        refine hcl.mono fun e w'' hh => ?_
        obtain ⟨v, E', Im', res, s', rfl, hk, hR', hv⟩ := hh
        exact hn _ _ _ _ _ hk (hR'.put hv)
      · cases h
    · rename_i recv name hc
      split at h
      · rename_i t v vs hrv hvs
        obtain ⟨u0, eu, hu0⟩ := (show Rep E s.nx w Im (.ifc t v) (a.eval recv) from hR.eval hrv)
        have hargs := evs_rep hR _ _ hvs
        have go : ∀ (f : Nat) (u : AV) (z : Value), O f (u :: vs) s (fun z s' => K (s'.put o.dst z)) = some r → Rep E s.nx w Im u z → (method (P.types.size + Made.depth) t u0 name).run P w = .ok (f, z) w → o.wp P a w next Q := by
          intro f u z h hz hm
          obtain ⟨⟨fn, hfn, hname, hbody⟩, hcall⟩ := hO f _ s _ h
          have he := enters_ hfn hname hbody (#[z] ++ c.args.map a.eval) w
          have hrun : (execOp a.eval o).run P w = .ok (.enter f (#[z] ++ c.args.map a.eval)) w := by
            unfold execOp
            have e1 : (#[a.eval recv] ++ c.args.map a.eval)[0]? = some (.iface t u0) := by
              rw [eu, Array.getElem?_append_left (by simp)]
              rfl
            have e2 : (#[a.eval recv] ++ c.args.map a.eval).extract 1 (#[a.eval recv] ++ c.args.map a.eval).size = c.args.map a.eval := by
              generalize c.args.map a.eval = l
              generalize a.eval recv = x
              obtain ⟨l⟩ := l
              apply Array.ext'
              simp
            simp only [ho, resolve, hc, Sem.run_bind, Sem.run_pure, Result.andThen_ok, invoke, e1, e2, callMethod, run_program, hm, he]
          unfold Oper.wp
          rw [hrun, Oper.upon_enter]
          have hcl := hcall E Im a w (z :: c.args.toList.map a.eval) hR (RepL.cons hz hargs)
          have harr : (z :: c.args.toList.map a.eval).toArray = #[z] ++ c.args.map a.eval := by
            apply Array.ext'
            simp
          rw [harr] at hcl
          refine hcl.mono fun e w'' hh => ?_
          obtain ⟨v, E', Im', res, s', rfl, hk, hR', hv⟩ := hh
          exact hn _ _ _ _ _ hk (hR'.put hv)
        split at h
        · rename_i f hme
          exact go f v u0 h hu0 (Laws.meth1 (P := P) t name f hme u0 w)
        · rename_i f et hme
          split at h
          · rename_i i off
            split at h
            · rename_i tb cs hlk
              obtain ⟨hi, g, hE, ex⟩ := hu0
              have hob := (hR.h.ob i _ (look_some hlk (by simp))).2
              obtain ⟨g', xs, hE', hg, hl, h1⟩ := hob
              rw [hE] at hE'
              injection hE' with hE'
              injection hE' with hE'
              injection hE' with hE'
              subst hE'
              have hz := ofCells_ne (n := 0) h
              obtain ⟨u, z, hk, hrun, hrep⟩ := run_loadAt (P := P) (s := s) (ad := ⟨g, off, none⟩) hz (vs := (xs.drop off).take (szOf et)) (fun q u hq => by
                rw [List.getElem?_take] at hq
                split at hq
                · rw [List.getElem?_drop] at hq
                  rw [add_at, blk_cell hg]
                  simpa using hq
                · cases hq) (RepL.take _ (RepL.drop off hl)) (fun u hu => h1 u (List.mem_of_mem_drop (List.mem_of_mem_take hu))) h
              have hrun' : (loadVar et ⟨g, off, none⟩).run P w = .ok z w := by simpa [Instr.loadAt, Instr.sureAddr] using hrun
              refine go f u z hk hrep ?_
              rw [ex, Laws.meth2 (P := P) t name f et hme, hrun']
              rfl
            · cases h
          · cases h
        · cases h
      · cases h
    · exact opK_ok hw h hR hn
  · exact opK_ok hw h hR hn
/-- A test that has been decided is told so. -/
theorem Rel.told {d : Nat} {v : AV} {u : Value} (hR : Rel C E Im s a w) (hd : a.tmps[d]? = some u) (hv : Rep E s.nx w Im v u) : Rel C E Im (s.put (some d) v) a w := by
  have h := hR.put (d := some d) hv
  have e : a.put (some d) u = a := by
    obtain ⟨tmps, defers⟩ := a
    unfold Act.put
    simp only at hd ⊢
    congr 1
    apply Array.ext_getElem?
    intro i
    rw [Array.getElem?_setIfInBounds]
    split
    · rename_i hi
      subst hi
      split
      · exact hd.symm
      · rename_i hlt
        rw [Array.getElem?_eq_none (by omega)]
    · rfl
  rwa [e] at h
theorem runOps_ok (hO : OOk P C O r) (hnx : Goes C r K (Q .normal)) : ∀ (l : List Oper) (s : St) (E : Nat → Value) (Im : Nat → Prop) (a : Act) (w : World), runOps O ops.toList l s K = some r → Rel C E Im s a w → wpList P ops Q l a w
  | [], s, E, Im, a, w, h, hR => hnx _ _ _ _ _ h hR
  | o :: l, s, E, Im, a, w, h, hR => by
    have ih : Goes C r (fun s => runOps O ops.toList l s K) (wpList P ops Q l) := fun E' Im' s' a' w' h' hR' => runOps_ok hO hnx l s' E' Im' a' w' h' hR'
    unfold runOps at h
    unfold wpList
    split at h
    · rename_i hg
      have hw : Region.wanted o (yielded ops a.tmps) = true := by unfold Region.wanted; rw [hg]
      rw [if_pos hw]
      exact .inl (opC_ok hO hw h hR ih)
    · rename_i g b hg
      split at h
      · cases h
      rename_i d hd
      split at h
      · rename_i hun
        have hg' : get s.sl d = some (.tup []) := by
          unfold isUndef at hun
          split at hun
          · assumption
          · cases hun
        obtain ⟨u, hu, vs, e, hvs⟩ := hR.s.sl d _ hg'
        have hvs' : vs = [] := hvs
        subst hvs'
        have hy : yielded ops a.tmps g = none := by
          unfold dstOf at hd
          unfold yielded
          split at hd
          · rename_i og hog
            have : ops[g]? = some og := by simpa using hog
            rw [this]
            simp only [Option.bind_some, hd, hu, e]
          · cases hd
        have hw : ¬ Region.wanted o (yielded ops a.tmps) = true := by
          unfold Region.wanted
          rw [hg]
          show ¬ (yielded ops a.tmps g == some b) = true
          rw [hy]
          cases b <;> decide
        rw [if_neg hw]
        exact runOps_ok hO hnx l _ E Im _ w h (hR.put (v := .tup []) ⟨[], rfl, rfl⟩)
      obtain ⟨x, p, i, hx, h2, hrep⟩ := onB_some h
      obtain ⟨u, hu, hr⟩ := hR.s.sl d x hx
      have hub := hrep _ _ _ _ _ hr
      have hy : yielded ops a.tmps g = some (@decide p i) := by
        unfold dstOf at hd
        unfold yielded
        split at hd
        · rename_i og hog
          have : ops[g]? = some og := by simpa using hog
          rw [this]
          simp only [Option.bind_some, hd, hu, hub]
        · cases hd
      have hwd : Region.wanted o (yielded ops a.tmps) = (some (@decide p i) == some b) := by
        unfold Region.wanted
        rw [hg]
        show (yielded ops a.tmps g == some b) = _
        rw [hy]
      have ht : @decide p i = true → Rel C E Im (s.put (some d) tt) a w := fun e => hR.told hu (by rw [hub, e]; rfl)
      have hf : @decide p i = false → Rel C E Im (s.put (some d) ff) a w := fun e => hR.told hu (by rw [hub, e]; rfl)
      cases b with
      | true =>
        cases i with
        | isTrue hp =>
          have e : @decide p (.isTrue hp) = true := rfl
          have hw : Region.wanted o (yielded ops a.tmps) = true := by rw [hwd]; rfl
          rw [if_pos hw]
          have h3 : opC O o (s.put (some d) tt) (fun s => runOps O ops.toList l s K) = some r := h2
          exact .inl (opC_ok hO hw h3 (ht e) ih)
        | isFalse hp =>
          have e : @decide p (.isFalse hp) = false := rfl
          have hw : ¬ Region.wanted o (yielded ops a.tmps) = true := by rw [hwd]; exact (show ¬ ((some false == some true) = true) by decide)
          rw [if_neg hw]
          have h3 : runOps O ops.toList l ((s.put (some d) ff).put o.dst (.tup [])) K = some r := h2
          exact runOps_ok hO hnx l _ E Im _ w h3 ((hf e).put (v := .tup []) ⟨[], rfl, rfl⟩)
      | false =>
        cases i with
        | isTrue hp =>
          have e : @decide p (.isTrue hp) = true := rfl
          have hw : ¬ Region.wanted o (yielded ops a.tmps) = true := by rw [hwd]; exact (show ¬ ((some true == some false) = true) by decide)
          rw [if_neg hw]
          have h3 : runOps O ops.toList l ((s.put (some d) tt).put o.dst (.tup [])) K = some r := h2
          exact runOps_ok hO hnx l _ E Im _ w h3 ((ht e).put (v := .tup []) ⟨[], rfl, rfl⟩)
        | isFalse hp =>
          have e : @decide p (.isFalse hp) = false := rfl
          have hw : Region.wanted o (yielded ops a.tmps) = true := by rw [hwd]; rfl
          rw [if_pos hw]
          have h3 : opC O o (s.put (some d) ff) (fun s => runOps O ops.toList l s K) = some r := h2
          exact .inl (opC_ok hO hw h3 (hf e) ih)
theorem Rel.cls (hR : Rel C E Im s a w) (hc : Cls w w') : Rel C E Im s a w' := by
  obtain ⟨h1, h2, h3⟩ := hc
  have hw : ∀ k, Im k → k < w.heap.size → w'.heap[k]? = w.heap[k]? := fun k _ hl => h3 k hl
  refine ⟨⟨fun k hk => Nat.lt_of_lt_of_le (hR.h.im k hk) h2, fun i o hi => ?_, hR.h.dis, hR.h.imd, fun i o k hi hk => ?_, Nat.le_trans hR.h.size h2, fun k hk hM => ?_, Same.trans hR.h.same h1, hR.h.imo, hR.h.np, hR.h.e0, hR.h.im0⟩, SRel.step hR.s rfl rfl hw (fun _ h => h) (fun _ _ => rfl) (Nat.le_refl _), hR.n⟩
  · obtain ⟨h4, h5⟩ := hR.h.ob i o hi
    exact ⟨h4, h5.step hw (fun k _ hl => h3 k hl) (fun _ h => h) (fun _ _ => rfl) (Nat.le_refl _)⟩
  · obtain ⟨h4, h5⟩ := hR.h.mu i o k hi hk
    exact ⟨h4, Nat.lt_of_lt_of_le h5 h2⟩
  · exact (h3 k (Nat.lt_of_lt_of_le hk hR.h.size)).trans (hR.h.frame k hk hM)
/-- What calls answer there. -/
def QOk (P : Program) (OQ : QOrc) : Prop := ∀ f vs s q, OQ f vs s = some q → (∃ fn, P.funcs[f]? = some fn ∧ (fn.name == "runtime.NumGoroutine") = false ∧ fn.body.isSome = true) ∧
  ∀ r0, q.x = some r0 → scalarB (q.enc r0) = true → ∃ u, (∀ E nx w Im, Rep E nx w Im (q.enc r0) u) ∧ ∀ C E Im a w (vals : List Value), Rel C E Im s a w → RepL E s.nx w Im vs vals → Calls P f vals.toArray w (fun e w' => e = .returned u ∧ Cls w w')
theorem Yd.quiet (h : Yd P a E Im s w o K r) (hR : Rel C E Im s a w) {nx : Act → Prop} (hn : ∀ s' a', K s' = some r → Rel C E Im s' a' w → nx a') : o.quiet P a (Cls w) nx := by
  obtain ⟨v, u, hk, hv, hrun⟩ := h
  refine ⟨u, fun w' hc => ?_, hn _ _ hk (hR.put hv)⟩
  unfold Oper.quietAt
  rw [hrun w' hc]
  exact ⟨rfl, rfl⟩
theorem YdA.quiet (h : YdA P a E Im s w o K r) (hR : Rel C E Im s a w) {nx : Act → Prop} (hn : ∀ s' a', K s' = some r → Rel C E Im s' a' w → nx a') : o.quiet P a (Cls w) nx := h.yd.quiet hR hn
theorem y_move {x : Operand} (ho : o.op = .move x ∨ o.op = .assign x) (hx : s.ev x ≠ some .nils) (h : opK o s K = some r) (hR : Rel C E Im s a w) : YdA P a E Im s w o K r := by
  have h' : (onV (s.ev x) fun v => match v with
    | .nils => match s.bit 2 with
      | true => K (s.put o.dst .nils)
      | false => elemOf o.type fun e => K ((s.new (.row e [])).put o.dst (.own s.nx))
    | v => K (s.put o.dst v)) = some r := by rcases ho with ho | ho <;> (simp only [opK, ho] at h; exact h)
  obtain ⟨v, hv, h2⟩ := onV_some h'
  have hr := hR.eval hv
  split at h2
  · exact absurd hv hx
  · exact yda h2 (fun w' => by rcases ho with ho | ho <;> (simp only [execOp, ho]; rfl)) hr
theorem opQ_ok (hQ : QOk P OQ) (h : opQ OQ o s K = some r) (hR : Rel C E Im s a w) {nx : Act → Prop} (hn : ∀ s' a', K s' = some r → Rel C E Im s' a' w → nx a') : o.quiet P a (Cls w) nx := by
  unfold opQ at h
  split at h
  · rename_i c ho
    split at h
    · rename_i f hc
      split at h
      · rename_i g caps vs hf hvs
        split at h
        · rename_i q hq
          obtain ⟨r0, hx, h2⟩ := Option.bind_eq_some_iff.1 h
          unfold ansQ at h2
          split at h2
          · rename_i hsc
            obtain ⟨⟨fn, hfn, hname, hbody⟩, hcall⟩ := hQ g _ s q hq
            obtain ⟨u, hu, hcl⟩ := hcall r0 hx hsc
            refine ⟨u, fun w' hw' => ?_, hn _ _ h2 (hR.put (hu _ _ _ _))⟩
            have hR' := hR.cls hw'
            obtain ⟨cv, ef, hcaps⟩ := (show Rep E s.nx w Im (.fn g caps) (a.eval f) from hR.eval hf)
            obtain ⟨cv', ef', hcaps'⟩ := (show Rep E s.nx w' Im (.fn g caps) (a.eval f) from hR'.eval hf)
            have hargs := evs_rep hR' _ _ hvs
            have he := enters_ hfn hname hbody (c.args.map a.eval ++ cv'.toArray) w'
            have hrun : (execOp a.eval o).run P w' = .ok (.enter g (c.args.map a.eval ++ cv'.toArray)) w' := by
              unfold execOp
              simp [ho, resolve, hc, ef', Deferred.ofValue, invoke, he]
            unfold Oper.quietAt
            rw [hrun]
            have hcl' := hcl C E Im a w' (c.args.toList.map a.eval ++ cv') hR' (RepL.append (argsK_rep hargs) hcaps')
            have harr : (c.args.toList.map a.eval ++ cv').toArray = c.args.map a.eval ++ cv'.toArray := by
              apply Array.ext'
              simp
            rw [harr] at hcl'
            exact ⟨rfl, hcl'.mono fun e w'' hh => ⟨hh.1, ⟨Same.trans hw'.1 hh.2.1, Nat.le_trans hw'.2.1 hh.2.2.1, fun k hk => (hh.2.2.2 k (Nat.lt_of_lt_of_le hk hw'.2.1)).trans (hw'.2.2 k hk)⟩⟩⟩
          · cases h2
        · cases h
      · cases h
    · rename_i b hc
      split at h
      · exact (y_len ho hc h hR).quiet hR hn
      · exact (y_max ho (.inl hc) h hR).quiet hR hn
      · exact (y_max ho (.inr hc) h hR).quiet hR hn
      · cases h
    · cases h
  · rename_i ho; exact (y_makeFunc ho h hR).quiet hR hn
  · rename_i ho; exact (y_makeInterface ho h hR).quiet hR hn
  · rename_i ho; exact (y_typeAssert ho h hR).quiet hR hn
  · rename_i x ho
    split at h
    · cases h
    · rename_i hne
      exact (y_move (.inl ho) hne h hR).quiet hR hn
  · rename_i x ho
    split at h
    · cases h
    · rename_i hne
      exact (y_move (.inr ho) hne h hR).quiet hR hn
  · rename_i ho; exact (y_pick ho h hR).quiet hR hn
  · rename_i ho; exact (y_binOp ho h hR).quiet hR hn
  · rename_i ho; exact (y_unOp ho h hR).quiet hR hn
  · rename_i ho; exact (y_convert ho h hR).quiet hR hn
  · rename_i ho; exact (y_extract ho h hR).quiet hR hn
  · rename_i ho; exact (y_nilCheck ho h hR).quiet hR hn
  · rename_i ho; exact (y_indexAddr ho h hR).quiet hR hn
  · rename_i ho; exact (y_fieldAddr ho h hR).quiet hR hn
  · rename_i ho; exact (y_field ho h hR).quiet hR hn
  · rename_i ho; exact (y_load ho h hR).quiet hR hn
  · rename_i t ps ho
    split at h
    · rename_i hp
      exact (y_build ho (by simpa [pureB, ho] using hp) h hR).quiet hR hn
    · cases h
  · cases h
theorem runOpsQ_ok (hQ : QOk P OQ) (hnx : Goes C r K (Q .normal)) : ∀ (l : List Oper) (s : St) (a : Act), runOpsQ OQ ops.toList l s K = some r → Rel C E Im s a w → wpQuiet P ops (Cls w) (fun a' => ∀ w', Cls w w' → Q .normal a' w') l a
  | [], s, a, h, hR => fun w' hw' => hnx _ _ _ _ _ h (hR.cls hw')
  | o :: l, s, a, h, hR => by
    have ih : ∀ s' a', runOpsQ OQ ops.toList l s' K = some r → Rel C E Im s' a' w → wpQuiet P ops (Cls w) (fun a' => ∀ w', Cls w w' → Q .normal a' w') l a' := fun s' a' h' hR' => runOpsQ_ok hQ hnx l s' a' h' hR'
    unfold runOpsQ at h
    unfold wpQuiet
    split at h
    · rename_i hg
      have hw : Region.wanted o (yielded ops a.tmps) = true := by unfold Region.wanted; rw [hg]
      rw [if_pos hw]
      exact opQ_ok hQ h hR ih
    · rename_i g b hg
      split at h
      · cases h
      rename_i d hd
      split at h
      · rename_i hun
        have hg' : get s.sl d = some (.tup []) := by
          unfold isUndef at hun
          split at hun
          · assumption
          · cases hun
        obtain ⟨u, hu, vs, e, hvs⟩ := hR.s.sl d _ hg'
        have hvs' : vs = [] := hvs
        subst hvs'
        have hy : yielded ops a.tmps g = none := by
          unfold dstOf at hd
          unfold yielded
          split at hd
          · rename_i og hog
            have : ops[g]? = some og := by simpa using hog
            rw [this]
            simp only [Option.bind_some, hd, hu, e]
          · cases hd
        have hw : ¬ Region.wanted o (yielded ops a.tmps) = true := by
          unfold Region.wanted
          rw [hg]
          show ¬ (yielded ops a.tmps g == some b) = true
          rw [hy]
          cases b <;> decide
        rw [if_neg hw]
        exact ih _ _ h (hR.put (v := .tup []) ⟨[], rfl, rfl⟩)
      obtain ⟨x, p, i, hx, h2, hrep⟩ := onB_some h
      obtain ⟨u, hu, hr⟩ := hR.s.sl d x hx
      have hub := hrep _ _ _ _ _ hr
      have hy : yielded ops a.tmps g = some (@decide p i) := by
        unfold dstOf at hd
        unfold yielded
        split at hd
        · rename_i og hog
          have : ops[g]? = some og := by simpa using hog
          rw [this]
          simp only [Option.bind_some, hd, hu, hub]
        · cases hd
      have hwd : Region.wanted o (yielded ops a.tmps) = (some (@decide p i) == some b) := by
        unfold Region.wanted
        rw [hg]
        show (yielded ops a.tmps g == some b) = _
        rw [hy]
      have ht : @decide p i = true → Rel C E Im (s.put (some d) tt) a w := fun e => hR.told hu (by rw [hub, e]; rfl)
      have hf : @decide p i = false → Rel C E Im (s.put (some d) ff) a w := fun e => hR.told hu (by rw [hub, e]; rfl)
      cases b with
      | true =>
        cases i with
        | isTrue hp =>
          have e : @decide p (.isTrue hp) = true := rfl
          have hw : Region.wanted o (yielded ops a.tmps) = true := by rw [hwd]; rfl
          rw [if_pos hw]
          have h3 : opQ OQ o (s.put (some d) tt) (fun s => runOpsQ OQ ops.toList l s K) = some r := h2
          exact opQ_ok hQ h3 (ht e) ih
        | isFalse hp =>
          have e : @decide p (.isFalse hp) = false := rfl
          have hw : ¬ Region.wanted o (yielded ops a.tmps) = true := by rw [hwd]; exact (show ¬ ((some false == some true) = true) by decide)
          rw [if_neg hw]
          have h3 : runOpsQ OQ ops.toList l ((s.put (some d) ff).put o.dst (.tup [])) K = some r := h2
          exact ih _ _ h3 ((hf e).put (v := .tup []) ⟨[], rfl, rfl⟩)
      | false =>
        cases i with
        | isTrue hp =>
          have e : @decide p (.isTrue hp) = true := rfl
          have hw : ¬ Region.wanted o (yielded ops a.tmps) = true := by rw [hwd]; exact (show ¬ ((some true == some false) = true) by decide)
          rw [if_neg hw]
          have h3 : runOpsQ OQ ops.toList l ((s.put (some d) tt).put o.dst (.tup [])) K = some r := h2
          exact ih _ _ h3 ((ht e).put (v := .tup []) ⟨[], rfl, rfl⟩)
        | isFalse hp =>
          have e : @decide p (.isFalse hp) = false := rfl
          have hw : Region.wanted o (yielded ops a.tmps) = true := by rw [hwd]; rfl
          rw [if_pos hw]
          have h3 : opQ OQ o (s.put (some d) ff) (fun s => runOpsQ OQ ops.toList l s K) = some r := h2
          exact opQ_ok hQ h3 (hf e) ih
theorem opA_ok (hl : loadB o = false) (h : opQ noQ o s K = some r) (hR : Rel C E Im s a w) : YdA P a E Im s w o K r := by
  unfold opQ at h
  split at h
  · rename_i c ho
    split at h
    · split at h
      · simp [noQ] at h
      · cases h
    · rename_i b hc
      split at h
      · exact y_len ho hc h hR
      · exact y_max ho (.inl hc) h hR
      · exact y_max ho (.inr hc) h hR
      · cases h
    · cases h
  · rename_i ho; exact y_makeFunc ho h hR
  · rename_i ho; exact y_makeInterface ho h hR
  · rename_i ho; exact y_typeAssert ho h hR
  · rename_i x ho
    split at h
    · cases h
    · rename_i hne
      exact y_move (.inl ho) hne h hR
  · rename_i x ho
    split at h
    · cases h
    · rename_i hne
      exact y_move (.inr ho) hne h hR
  · rename_i ho; exact y_pick ho h hR
  · rename_i ho; exact y_binOp ho h hR
  · rename_i ho; exact y_unOp ho h hR
  · rename_i ho; exact y_convert ho h hR
  · rename_i ho; exact y_extract ho h hR
  · rename_i ho; exact y_nilCheck ho h hR
  · rename_i ho; exact y_indexAddr ho h hR
  · rename_i ho; exact y_fieldAddr ho h hR
  · rename_i ho; exact y_field ho h hR
  · rename_i ho
    simp [loadB, ho] at hl
  · rename_i t ps ho
    split at h
    · rename_i hp
      exact y_build ho (by simpa [pureB, ho] using hp) h hR
    · cases h
  · cases h
theorem opY_ok (h : opQ noQ o s K = some r) (hR : Rel C E Im s a w) : Yd P a E Im s w o K r := by
  unfold opQ at h
  split at h
  · rename_i c ho
    split at h
    · split at h
      · simp [noQ] at h
      · cases h
    · rename_i b hc
      split at h
      · exact (y_len ho hc h hR).yd
      · exact (y_max ho (.inl hc) h hR).yd
      · exact (y_max ho (.inr hc) h hR).yd
      · cases h
    · cases h
  · rename_i ho; exact (y_makeFunc ho h hR).yd
  · rename_i ho; exact (y_makeInterface ho h hR).yd
  · rename_i ho; exact (y_typeAssert ho h hR).yd
  · rename_i x ho
    split at h
    · cases h
    · rename_i hne
      exact (y_move (.inl ho) hne h hR).yd
  · rename_i x ho
    split at h
    · cases h
    · rename_i hne
      exact (y_move (.inr ho) hne h hR).yd
  · rename_i ho; exact (y_pick ho h hR).yd
  · rename_i ho; exact (y_binOp ho h hR).yd
  · rename_i ho; exact (y_unOp ho h hR).yd
  · rename_i ho; exact (y_convert ho h hR).yd
  · rename_i ho; exact (y_extract ho h hR).yd
  · rename_i ho; exact (y_nilCheck ho h hR).yd
  · rename_i ho; exact (y_indexAddr ho h hR).yd
  · rename_i ho; exact (y_fieldAddr ho h hR).yd
  · rename_i ho; exact (y_field ho h hR).yd
  · rename_i ho; exact y_load ho h hR
  · rename_i t ps ho
    split at h
    · rename_i hp
      exact (y_build ho (by simpa [pureB, ho] using hp) h hR).yd
    · cases h
  · cases h
/-- An operation is wanted, or it is not. -/
theorem guardK_ok {on off : St → Option ρ} (h : guardK ops.toList o s on off = some r) (hR : Rel C E Im s a w) :
    (Region.wanted o (yielded ops a.tmps) = true ∧ ∃ s', on s' = some r ∧ Rel C E Im s' a w) ∨ (Region.wanted o (yielded ops a.tmps) = false ∧ ∃ s', off s' = some r ∧ Rel C E Im s' a w) := by
  unfold guardK at h
  split at h
  · rename_i hg
    exact .inl ⟨by unfold Region.wanted; rw [hg], s, h, hR⟩
  · rename_i g b hg
    split at h
    · cases h
    rename_i d hd
    split at h
    · rename_i hun
      have hg' : get s.sl d = some (.tup []) := by
        unfold isUndef at hun
        split at hun
        · assumption
        · cases hun
      obtain ⟨u, hu, vs, e, hvs⟩ := hR.s.sl d _ hg'
      have hvs' : vs = [] := hvs
      subst hvs'
      have hy : yielded ops a.tmps g = none := by
        unfold dstOf at hd
        unfold yielded
        split at hd
        · rename_i og hog
          have : ops[g]? = some og := by simpa using hog
          rw [this]
          simp only [Option.bind_some, hd, hu, e]
        · cases hd
      refine .inr ⟨?_, s, h, hR⟩
      unfold Region.wanted
      rw [hg]
      show (yielded ops a.tmps g == some b) = false
      rw [hy]
      cases b <;> decide
    obtain ⟨x, p, i, hx, h2, hrep⟩ := onB_some h
    obtain ⟨u, hu, hr⟩ := hR.s.sl d x hx
    have hub := hrep _ _ _ _ _ hr
    have hy : yielded ops a.tmps g = some (@decide p i) := by
      unfold dstOf at hd
      unfold yielded
      split at hd
      · rename_i og hog
        have : ops[g]? = some og := by simpa using hog
        rw [this]
        simp only [Option.bind_some, hd, hu, hub]
      · cases hd
    have hwd : Region.wanted o (yielded ops a.tmps) = (some (@decide p i) == some b) := by
      unfold Region.wanted
      rw [hg]
      show (yielded ops a.tmps g == some b) = _
      rw [hy]
    have ht : @decide p i = true → Rel C E Im (s.put (some d) tt) a w := fun e => hR.told hu (by rw [hub, e]; rfl)
    have hf : @decide p i = false → Rel C E Im (s.put (some d) ff) a w := fun e => hR.told hu (by rw [hub, e]; rfl)
    cases b with
    | true =>
      cases i with
      | isTrue hp => exact .inl ⟨by rw [hwd]; rfl, _, h2, ht rfl⟩
      | isFalse hp => exact .inr ⟨by rw [hwd]; exact (show (some false == some true) = false by decide), _, h2, hf rfl⟩
    | false =>
      cases i with
      | isTrue hp => exact .inr ⟨by rw [hwd]; exact (show (some true == some false) = false by decide), _, h2, ht rfl⟩
      | isFalse hp => exact .inl ⟨by rw [hwd]; rfl, _, h2, hf rfl⟩
theorem Rel.undef (hR : Rel C E Im s a w) : Rel C E Im (s.put o.dst (.tup [])) (a.put o.dst undef) w := hR.put (v := .tup []) ⟨[], rfl, rfl⟩
theorem runPost_ok (hO : OOk P C O r) (hP : ∀ c a w, ¬ Q (.panic c) a w) {S : World → Prop} {ds : List Nat} (hnx : Goes C r K (Q .normal)) : ∀ (is : List Nat) (l : Array Bool) (s : St) (E : Nat → Value) (Im : Nat → Prop) (a : Act) (w : World), (∀ i ∈ is, i ∈ ds) → runPost O ops is l s K = some r → Rel C E Im s a w → wpAnyLast P .any ops Q S ds is.length l a w
  | [], l, s, E, Im, a, w, hds, h, hR => by
    unfold runPost at h
    split at h
    · rename_i hr
      exact done_ hr (hnx _ _ _ _ _ h hR)
    · cases h
  | i :: is, l, s, E, Im, a, w, hds, h, hR => by
    unfold runPost at h
    split at h
    · cases h
    rename_i o hi
    split at h
    · rename_i hc0
      rw [Bool.and_eq_true, Bool.and_eq_true] at hc0
      have hl : loadB o = false := by simpa using hc0.1.2
      rcases guardK_ok h hR with ⟨hw, s', h', hR'⟩ | ⟨hw, s', h', hR'⟩
      · obtain ⟨v, u, hk2, hv, hrun⟩ := opA_ok (P := P) hl h' hR'
        exact pure_ (v := u) (l.setIfInBounds i true) hi rfl hc0.2 (fun c a w h => absurd h (hP c _ w)) (.inl ⟨hw, hrun⟩) rfl (runPost_ok hO hP hnx is _ _ E Im _ w (fun j hj => hds j (List.mem_cons_of_mem _ hj)) hk2 (hR'.put hv))
      · exact pure_ (v := undef) (l.setIfInBounds i true) hi rfl hc0.2 (fun c a w h => absurd h (hP c _ w)) (.inr ⟨hw, rfl⟩) rfl (runPost_ok hO hP hnx is _ _ E Im _ w (fun j hj => hds j (List.mem_cons_of_mem _ hj)) h' hR'.undef)
    split at h
    · cases h
    rename_i hc
    refine last_ (l.setIfInBounds i true) hi rfl hc (hds i List.mem_cons_self) (fun K' hK => ?_)
    have ih : ∀ s' E' Im' a' w', runPost O ops is (l.setIfInBounds i true) s' K = some r → Rel C E' Im' s' a' w' → K' a' w' := fun s' E' Im' a' w' h' hR' => hK.out _ _ (runPost_ok hO hP hnx is _ s' E' Im' a' w' (fun j hj => hds j (List.mem_cons_of_mem _ hj)) h' hR')
    rcases guardK_ok h hR with ⟨hw, s', h', hR'⟩ | ⟨hw, s', h', hR'⟩
    · rw [if_pos hw]
      exact opC_ok (ops := ops) hO hw h' hR' (fun E' Im' s'' a' w' h'' hR'' => ih s'' E' Im' a' w' h'' hR'')
    · rw [if_neg (by rw [hw]; decide)]
      exact ih _ _ _ _ _ h' hR'.undef
theorem runPre_ok {S : World → Prop} {ds : List Nat} (hS : S = Cls w) (hP : ∀ c a w, ¬ Q (.panic c) a w) {KK : Array Bool → St → Option ρ} {n : Nat} : ∀ (is : List Nat) (l : Array Bool) (s : St) (a : Act), runPre ops ds is l s KK = some r → Rel C E Im s a w → (∀ l' s' a', KK l' s' = some r → Rel C E Im s' a' w → wpAnyLast P .any ops Q S ds n l' a' w) → wpAnyLast P .any ops Q S ds (is.length + n) l a w
  | [], l, s, a, h, hR, hk => by
    rw [List.length_nil, Nat.zero_add]
    exact hk l s a h hR
  | i :: is, l, s, a, h, hR, hk => by
    unfold runPre at h
    split at h
    · cases h
    rename_i o hi
    split at h
    · cases h
    rename_i hc
    rw [show (i :: is).length + n = (is.length + n) + 1 by rw [List.length_cons]; omega]
    rw [Bool.or_eq_true] at hc
    rcases hc with hc | hc
    rotate_left
    · rw [Bool.and_eq_true] at hc
      have hl : loadB o = false := by simpa using hc.1
      rcases guardK_ok h hR with ⟨hw, s', h', hR'⟩ | ⟨hw, s', h', hR'⟩
      · obtain ⟨v, u, hk2, hv, hrun⟩ := opA_ok (P := P) hl h' hR'
        exact pure_ (v := u) (l.setIfInBounds i true) hi rfl hc.2 (fun c a w h => absurd h (hP c _ w)) (.inl ⟨hw, hrun⟩) rfl (runPre_ok hS hP is _ _ _ hk2 (hR'.put hv) hk)
      · exact pure_ (v := undef) (l.setIfInBounds i true) hi rfl hc.2 (fun c a w h => absurd h (hP c _ w)) (.inr ⟨hw, rfl⟩) rfl (runPre_ok hS hP is _ _ _ h' hR'.undef hk)
    rcases guardK_ok h hR with ⟨hw, s', h', hR'⟩ | ⟨hw, s', h', hR'⟩
    · obtain ⟨v, u, hk2, hv, hrun⟩ := opY_ok (P := P) h' hR'
      exact take_ (v := u) (l.setIfInBounds i true) hi rfl hc (fun c a w h => absurd h (hP c _ w)) (.inl ⟨hw, fun w' hw' => hrun w' (by rw [hS] at hw'; exact hw')⟩) (by rw [hS]; exact Cls.refl w) rfl (runPre_ok hS hP is _ _ _ hk2 (hR'.put hv) hk)
    · exact take_ (v := undef) (l.setIfInBounds i true) hi rfl hc (fun c a w h => absurd h (hP c _ w)) (.inr ⟨hw, rfl⟩) (by rw [hS]; exact Cls.refl w) rfl (runPre_ok hS hP is _ _ _ h' hR'.undef hk)
theorem opM_ok (hm : mkB o = true) (hw : Region.wanted o (yielded ops a.tmps) = true) (h : opK o s K = some r) (hR : Rel C E Im s a w) (hn : GoesN C r K next w) : o.wp P a w next Q := by
  cases ho : o.op with
  | move x => exact okN_move (.inl ho) h hR hn
  | assign x => exact okN_move (.inr ho) h hR hn
  | pick c x y => exact (y_pick ho h hR).okN hR hn
  | binOp op t x y t' => exact (y_binOp ho h hR).okN hR hn
  | unOp op t x => exact (y_unOp ho h hR).okN hR hn
  | convert t' t x => exact (y_convert ho h hR).okN hR hn
  | extract x i => exact (y_extract ho h hR).okN hR hn
  | nilCheck x => exact (y_nilCheck ho h hR).okN hR hn
  | indexAddr t x i => exact (y_indexAddr ho h hR).okN hR hn
  | fieldAddr t x i => exact (y_fieldAddr ho h hR).okN hR hn
  | field t x i => exact (y_field ho h hR).okN hR hn
  | load t x => exact (y_load ho h hR).okN hR hn
  | alloc t => exact okN_alloc ho h hR hn
  | box t x => exact okN_box ho h hR hn
  | build t ps => exact okN_build ho h hR hn
  | buildSlice t n ps => exact okN_buildSlice ho hw h hR hn
  | makeSlice t n c => exact okN_makeSlice ho hw h hR hn
  | makeFunc f first caps => exact (y_makeFunc ho h hR).okN hR hn
  | makeInterface t x => exact (y_makeInterface ho h hR).okN hR hn
  | typeAssert x xt t ok => exact (y_typeAssert ho h hR).okN hR hn
  | call c =>
    cases hc : c.callee with
    | builtin b =>
      cases b
      case len => exact (y_len ho hc h hR).okN hR hn
      case max => exact (y_max ho (.inl hc) h hR).okN hR hn
      case min => exact (y_max ho (.inr hc) h hR).okN hR hn
      all_goals simp [mkB, pureB, ho, hc] at hm
    | _ => simp [mkB, pureB, ho, hc] at hm
  | _ => simp [mkB, pureB, ho] at hm
/-- What calls answer that only make what is new. -/
def OOkN (P : Program) (C : Ctx) (O : Orc ρ) (r : ρ) : Prop := ∀ f vs s K, O f vs s K = some r → (∃ fn, P.funcs[f]? = some fn ∧ (fn.name == "runtime.NumGoroutine") = false ∧ fn.body.isSome = true) ∧
  ∀ E Im a w (vals : List Value), Rel C E Im s a w → RepL E s.nx w Im vs vals → Calls P f vals.toArray w (fun e w' => ∃ v E' Im' res s', e = .returned v ∧ K res s' = some r ∧ Rel C E' Im' s' a w' ∧ Rep E' s'.nx w' Im' res v ∧ Cls w w')
theorem opN_ok {ms : Nat → Bool} (hO : OOkN P C O r) (hm : makerB ms o = true) (h : opC O o s K = some r) (hR : Rel C E Im s a w) (hn : GoesN C r K next w) : o.wp P a w next Q := by
  unfold makerB at hm
  split at hm
  · rename_i c ho
    split at hm
    · rename_i f hc
      unfold opC at h
      simp only [ho, hc] at h
      split at h
      · rename_i g caps vs hf hvs
        obtain ⟨cv, ef, hcaps⟩ := (show Rep E s.nx w Im (.fn g caps) (a.eval f) from hR.eval hf)
        have hargs := evs_rep hR _ _ hvs
        obtain ⟨⟨fn, hfn, hname, hbody⟩, hcall⟩ := hO g _ s _ h
        have he := enters_ hfn hname hbody (c.args.map a.eval ++ cv.toArray) w
        have hrun : (execOp a.eval o).run P w = .ok (.enter g (c.args.map a.eval ++ cv.toArray)) w := by
          unfold execOp
          simp [ho, resolve, hc, ef, Deferred.ofValue, invoke, he]
        unfold Oper.wp
        rw [hrun, Oper.upon_enter]
        have hcl := hcall E Im a w (c.args.toList.map a.eval ++ cv) hR (RepL.append (argsK_rep hargs) hcaps)
        have harr : (c.args.toList.map a.eval ++ cv).toArray = c.args.map a.eval ++ cv.toArray := by
          apply Array.ext'
          simp
        rw [harr] at hcl
        refine hcl.mono fun e w'' hh => ?_
        obtain ⟨v, E', Im', res, s', rfl, hk, hR', hv, hcls⟩ := hh
        exact hn _ _ _ _ _ hk (hR'.put hv) hcls
      · rename_i g first vs hf hvs
        obtain ⟨cv, ef, hcaps⟩ := (show Rep E s.nx w Im (.bm g first) (a.eval f) from hR.eval hf)
        have hargs := evs_rep hR _ _ hvs
        obtain ⟨⟨fn, hfn, hname, hbody⟩, hcall⟩ := hO g _ s _ h
        have he := enters_ hfn hname hbody (cv.toArray ++ c.args.map a.eval) w
        have hrun : (execOp a.eval o).run P w = .ok (.enter g (cv.toArray ++ c.args.map a.eval)) w := by
          unfold execOp
          simp [ho, resolve, hc, ef, Deferred.ofValue, invoke, he]
        unfold Oper.wp
        rw [hrun, Oper.upon_enter]
        have hcl := hcall E Im a w (cv ++ c.args.toList.map a.eval) hR (RepL.append hcaps (argsK_rep hargs))
        have harr : (cv ++ c.args.toList.map a.eval).toArray = cv.toArray ++ c.args.map a.eval := by
          apply Array.ext'
          simp
        rw [harr] at hcl
        refine hcl.mono fun e w'' hh => ?_
        obtain ⟨v, E', Im', res, s', rfl, hk, hR', hv, hcls⟩ := hh
        exact hn _ _ _ _ _ hk (hR'.put hv) hcls
      · cases h
    · cases hm
  · cases hm
theorem ambL_some : ∀ {l : List (Option ρ)}, ambL l = some r → ∀ x ∈ l, x = some r
  | [], h, x, hx => by cases hx
  | [y], h, x, hx => by
    rw [List.mem_singleton.1 hx]
    exact h
  | y :: z :: l, h, x, hx => by
    unfold ambL at h
    split at h
    · rename_i e
      rcases List.mem_cons.1 hx with hx | hx
      · rw [hx]; exact h
      · rw [h] at e
        exact ambL_some e.symm x hx
    · cases h
theorem canNext_ok {ds : List Nat} {fresh : Bool} {l : Array Bool} {i : Nat} (h : canNext ops ds fresh l i = true) : ∃ o, ops[i]? = some o ∧ ((fresh = true ∧ takeB .any ops ds l (l.setIfInBounds i true) i = true) ∨ (loadB o = false ∧ anyB .any ops l (l.setIfInBounds i true) i = true)) := by
  unfold canNext at h
  split at h
  · cases h
  split at h
  · cases h
  rename_i o ho
  refine ⟨o, ho, ?_⟩
  split at h
  · cases h
  split at h
  · rename_i hb
    rw [Bool.and_eq_true] at hb
    exact .inl hb
  · rw [Bool.and_eq_true] at h
    exact .inr ⟨by simpa using h.1, h.2⟩
theorem nextI_ok {ds : List Nat} {fresh : Bool} {l : Array Bool} {i : Nat} : ∀ {is : List Nat}, nextI ops ds fresh l is = some i → canNext ops ds fresh l i = true
  | [], h => by cases h
  | j :: is, h => by
    unfold nextI at h
    split at h
    · rename_i hb
      injection h with h
      rw [← h]; exact hb
    · exact nextI_ok h
theorem effIdx_mem {ms : Nat → Bool} {o : Oper} (h1 : mkB o = false) (h2 : makerB ms o = false) : ∀ (l : List Oper) (k i : Nat), l[i]? = some o → k + i ∈ effIdx ms l k
  | [], k, i, h => by simp at h
  | x :: l, k, 0, h => by
    rw [List.getElem?_cons_zero] at h
    injection h with h
    subst h
    unfold effIdx
    rw [h1, h2]
    exact List.mem_cons_self
  | x :: l, k, i + 1, h => by
    rw [List.getElem?_cons_succ] at h
    have := effIdx_mem h1 h2 l (k + 1) i h
    rw [show k + (i + 1) = k + 1 + i by omega]
    unfold effIdx
    split
    · exact this
    · split
      · exact this
      · exact List.mem_cons_of_mem _ this
theorem runAll_ok {ON : Orc ρ} {ms : Nat → Bool} {w0 : World} {S : World → Prop} {ds : List Nat} (hS : S = Cls w0) (hds : ∀ i o, ops[i]? = some o → mkB o = false → makerB ms o = false → i ∈ ds) (hO : OOk P C O r) (hN : OOkN P C ON r) (hP : ∀ c a w, ¬ Q (.panic c) a w) (hnx : Goes C r K (Q .normal)) : ∀ (n : Nat) (fresh : Bool) (l : Array Bool) (s : St) (E : Nat → Value) (Im : Nat → Prop) (a : Act) (w : World), (fresh = true → w = w0) → runAll O ON ms ops ds n fresh l s K = some r → Rel C E Im s a w → wpAnyLast P .any ops Q S ds n l a w
  | 0, fresh, l, s, E, Im, a, w, hf, h, hR => by
    unfold runAll at h
    split at h
    · rename_i hr
      exact ⟨hr, hnx _ _ _ _ _ h hR⟩
    · cases h
  | n + 1, fresh, l, s, E, Im, a, w, hf, h, hR => by
    have ih := runAll_ok hS hds hO hN hP hnx n
    unfold runAll at h
    split at h
    · rename_i i hnxt
      obtain ⟨o, hi, hc⟩ := canNext_ok (nextI_ok hnxt)
      simp only [hi] at h
      rcases guardK_ok h hR with ⟨hw, s', h', hR'⟩ | ⟨hw, s', h', hR'⟩
      · rcases hc with ⟨hfr, hc⟩ | ⟨hl, hc⟩
        · have e := hf hfr
          obtain ⟨v, u, hk2, hv, hrun⟩ := opY_ok (P := P) h' hR'
          exact take_ (v := u) (l.setIfInBounds i true) hi rfl hc (fun c a w h => absurd h (hP c _ w)) (.inl ⟨hw, fun w' hw' => hrun w' (by rw [hS, ← e] at hw'; exact hw')⟩) (by rw [hS, ← e]; exact Cls.refl w) rfl (ih fresh _ _ _ _ _ _ hf hk2 (hR'.put hv))
        · obtain ⟨v, u, hk2, hv, hrun⟩ := opA_ok (P := P) hl h' hR'
          exact pure_ (v := u) (l.setIfInBounds i true) hi rfl hc (fun c a w h => absurd h (hP c _ w)) (.inl ⟨hw, hrun⟩) rfl (ih fresh _ _ _ _ _ _ hf hk2 (hR'.put hv))
      · rcases hc with ⟨hfr, hc⟩ | ⟨hl, hc⟩
        · have e := hf hfr
          exact take_ (v := undef) (l.setIfInBounds i true) hi rfl hc (fun c a w h => absurd h (hP c _ w)) (.inr ⟨hw, rfl⟩) (by rw [hS, ← e]; exact Cls.refl w) rfl (ih fresh _ _ _ _ _ _ hf h' hR'.undef)
        · exact pure_ (v := undef) (l.setIfInBounds i true) hi rfl hc (fun c a w h => absurd h (hP c _ w)) (.inr ⟨hw, rfl⟩) rfl (ih fresh _ _ _ _ _ _ hf h' hR'.undef)
    · split at h
      · cases h
      rename_i hne
      refine wpAnyLast_ready rfl (fun e => hne e) (fun i hin => ?_)
      have hx := ambL_some h _ (List.mem_map.2 ⟨i, hin, rfl⟩)
      split at hx
      · cases hx
      rename_i o hi
      refine wpOp_step hi (fun K' hK => ?_)
      have fin : ∀ fresh' s' E' Im' a' w', (fresh' = true → w' = w0) → (i ∉ ds → S w → S w') → runAll O ON ms ops ds n fresh' (l.setIfInBounds i true) s' K = some r → Rel C E' Im' s' a' w' → K' a' w' := fun fresh' s' E' Im' a' w' h1 h2 h3 h4 => hK _ _ ⟨h2, ih fresh' _ _ _ _ _ _ h1 h3 h4⟩
      have off : ∀ (fresh' : Bool) s', (fresh' = true → w = w0) → runAll O ON ms ops ds n fresh' (l.setIfInBounds i true) (s'.put o.dst (.tup [])) K = some r → Rel C E Im s' a w → K' (a.put o.dst undef) w := fun fresh' s' h1 h2 h3 => fin fresh' _ _ _ _ _ h1 (fun _ h => h) h2 h3.undef
      split at hx
      · rcases guardK_ok hx hR with ⟨hw, s', h', hR'⟩ | ⟨hw, s', h', hR'⟩
        · rw [if_pos hw]
          obtain ⟨v, u, hk2, hv, hrun⟩ := opY_ok (P := P) h' hR'
          exact wp_val (hrun w (Cls.refl w)) (fin fresh _ _ _ _ _ hf (fun _ h => h) hk2 (hR'.put hv))
        · rw [if_neg (by rw [hw]; decide)]
          exact off fresh s' hf h' hR'
      · split at hx
        · rename_i hm
          rcases guardK_ok hx hR with ⟨hw, s', h', hR'⟩ | ⟨hw, s', h', hR'⟩
          · rw [if_pos hw]
            exact opM_ok (ops := ops) hm hw h' hR' (fun E' Im' s'' a' w' h'' hR'' hc'' => fin false _ _ _ _ _ (fun e => by cases e) (fun _ h => by rw [hS] at h ⊢; exact h.trans hc'') h'' hR'')
          · rw [if_neg (by rw [hw]; decide)]
            exact off false s' (fun e => by cases e) h' hR'
        · rename_i hm
          split at hx
          · rename_i hmk
            rcases guardK_ok hx hR with ⟨hw, s', h', hR'⟩ | ⟨hw, s', h', hR'⟩
            · rw [if_pos hw]
              exact opN_ok hN hmk h' hR' (fun E' Im' s'' a' w' h'' hR'' hc'' => fin false _ _ _ _ _ (fun e => by cases e) (fun _ h => by rw [hS] at h ⊢; exact h.trans hc'') h'' hR'')
            · rw [if_neg (by rw [hw]; decide)]
              exact off false s' (fun e => by cases e) h' hR'
          · rename_i hmk
            have hd := hds i o hi (by simpa using hm) (by simpa using hmk)
            rcases guardK_ok hx hR with ⟨hw, s', h', hR'⟩ | ⟨hw, s', h', hR'⟩
            · rw [if_pos hw]
              exact opC_ok (ops := ops) hO hw h' hR' (fun E' Im' s'' a' w' h'' hR'' => fin false _ _ _ _ _ (fun e => by cases e) (fun hn => absurd hd hn) h'' hR'')
            · rw [if_neg (by rw [hw]; decide)]
              exact off false s' (fun e => by cases e) h' hR'
theorem runAllE_ok {ON : Orc ρ} {ms : Nat → Bool} (hO : OOk P C O r) (hN : OOkN P C ON r) (hP : ∀ c a w, ¬ Q (.panic c) a w) (hnx : Goes C r K (Q .normal)) {id : Nat} (h : runAll O ON ms ops (effIdx ms ops.toList 0) ops.size true (Array.replicate ops.size false) s K = some r) (hR : Rel C E Im s a w) : (Code.region id ops true).wp P Q a w := by
  have hR' : Rel C E Im s a w.drew := hR.cls ⟨⟨rfl, rfl, rfl⟩, Nat.le_refl _, fun _ _ => rfl⟩
  refine start_ (n := ops.size) (S := Cls w.drew) (ds := effIdx ms ops.toList 0) (Array.replicate ops.size false) Laws.mixed rfl rfl (Cls.refl _) (fun _ => ?_)
  refine runAll_ok rfl (fun i o hi h1 h2 => ?_) hO hN hP hnx ops.size true _ s E Im a _ (fun _ => rfl) h hR'
  have := effIdx_mem h1 h2 ops.toList 0 i (by simpa using hi)
  simpa using this
theorem runMid_ok {w0 : World} {S : World → Prop} {ds : List Nat} (hS : S = Cls w0) (hP : ∀ c a w, ¬ Q (.panic c) a w) {KK : Array Bool → St → Option ρ} {n : Nat} : ∀ (is : List Nat) (l : Array Bool) (s : St) (E : Nat → Value) (Im : Nat → Prop) (a : Act) (w : World), (∀ i ∈ is, i ∉ ds) → runMid ops is l s KK = some r → Rel C E Im s a w → Cls w0 w → (∀ l' s' E' Im' a' w', KK l' s' = some r → Rel C E' Im' s' a' w' → wpAnyLast P .any ops Q S ds n l' a' w') → wpAnyLast P .any ops Q S ds (is.length + n) l a w
  | [], l, s, E, Im, a, w, _, h, hR, hc, hk => by
    rw [List.length_nil, Nat.zero_add]
    exact hk l s E Im a w h hR
  | i :: is, l, s, E, Im, a, w, hds, h, hR, hcl, hk => by
    unfold runMid at h
    split at h
    · cases h
    rename_i o hi
    split at h
    · cases h
    rename_i hc
    rw [Bool.and_eq_true] at hc
    rw [show (i :: is).length + n = (is.length + n) + 1 by rw [List.length_cons]; omega]
    refine one_ (l.setIfInBounds i true) hi rfl hc.1 (hds i List.mem_cons_self) (fun K' hK => ?_)
    have ih : ∀ s' E' Im' a' w', runMid ops is (l.setIfInBounds i true) s' KK = some r → Rel C E' Im' s' a' w' → Cls w w' → K' a' w' := fun s' E' Im' a' w' h' hR' hc' => by
      have hc2 := hcl.trans hc'
      exact hK.out _ _ (by rw [hS]; exact hc2) (fun _ => runMid_ok hS hP is _ s' E' Im' a' w' (fun j hj => hds j (List.mem_cons_of_mem _ hj)) h' hR' hc2 hk)
    rcases guardK_ok h hR with ⟨hw, s', h', hR'⟩ | ⟨hw, s', h', hR'⟩
    · rw [if_pos hw]
      exact opM_ok (ops := ops) hc.2 hw h' hR' (fun E' Im' s'' a' w' h'' hR'' hc'' => ih s'' E' Im' a' w' h'' hR'' hc'')
    · rw [if_neg (by rw [hw]; decide)]
      exact ih _ _ _ _ _ h' hR'.undef (Cls.refl _)
theorem runE_ok (hO : OOk P C O r) (hP : ∀ c a w, ¬ Q (.panic c) a w) (hnx : Goes C r K (Q .normal)) {id : Nat} {pre mid ds : List Nat} (hd : ∀ i ∈ mid, i ∉ ds) (h : runE O ops pre mid ds s K = some r) (hR : Rel C E Im s a w) : (Code.region id ops true).wp P Q a w := by
  unfold runE at h
  split at h
  · rename_i hb
    have hsz := Nat.eq_of_beq_eq_true hb
    have hR' : Rel C E Im s a w.drew := hR.cls ⟨⟨rfl, rfl, rfl⟩, Nat.le_refl _, fun _ _ => rfl⟩
    refine start_ (n := pre.length + (mid.length + ds.length)) (S := Cls w.drew) (ds := ds) (Array.replicate ops.size false) Laws.mixed hsz.symm (by rw [hsz]) (Cls.refl _) (fun _ => ?_)
    exact runPre_ok rfl hP pre _ s a h hR' (fun l' s' a' h' hR'' => runMid_ok rfl hP mid l' s' E Im a' _ hd h' hR'' (Cls.refl _) (fun l2 s2 E2 Im2 a2 w2 h2 hR2 => runPost_ok hO hP hnx ds l2 s2 E2 Im2 a2 w2 (fun _ h => h) h2 hR2))
  · cases h
theorem restIdx_lt (pre : List Nat) : ∀ (n : Nat), ∀ i ∈ restIdx pre n, i < n
  | 0, i, h => by simp [restIdx] at h
  | n + 1, i, h => by
    unfold restIdx at h
    split at h
    · exact Nat.lt_succ_of_lt (restIdx_lt pre n i h)
    · rcases List.mem_append.1 h with h | h
      · exact Nat.lt_succ_of_lt (restIdx_lt pre n i h)
      · rw [List.mem_singleton.1 h]; exact Nat.lt_succ_self n
theorem restIdx_nodup (pre : List Nat) : ∀ (n : Nat), (restIdx pre n).Nodup
  | 0 => List.nodup_nil
  | n + 1 => by
    unfold restIdx
    split
    · exact restIdx_nodup pre n
    · refine List.nodup_append.2 ⟨restIdx_nodup pre n, by simp, fun a ha b hb => ?_⟩
      rw [List.mem_singleton.1 hb]
      have := restIdx_lt pre n a ha
      omega
theorem midIdx_pre : ∀ (l : List Nat), ∃ l', l = midIdx ops l ++ l'
  | [] => ⟨[], rfl⟩
  | i :: l => by
    obtain ⟨l', h⟩ := midIdx_pre l
    unfold midIdx
    split
    · split
      · exact ⟨l', by rw [List.cons_append, ← h]⟩
      · exact ⟨i :: l, rfl⟩
    · exact ⟨i :: l, rfl⟩
theorem mid_ds {pre : List Nat} : ∀ i ∈ midIdx ops (restIdx pre ops.size), i ∉ (restIdx pre ops.size).drop (midIdx ops (restIdx pre ops.size)).length := by
  obtain ⟨l', h⟩ := midIdx_pre (ops := ops) (restIdx pre ops.size)
  have hnd := restIdx_nodup pre ops.size
  generalize midIdx ops (restIdx pre ops.size) = m at h
  rw [h] at hnd ⊢
  intro i hi hj
  rw [List.drop_left] at hj
  exact (List.nodup_append.1 hnd).2.2 i hi i hj rfl
def itemOf : It → Item
  | .code c => .code c
  | .blk id => .inBlock id
  | .lp c => .inLoop c
  | .reg id ops d => .code (.region id ops d)
/-- What is left to do ends, with Q. -/
def Fin (P : Program) (Q : Act → World → Prop) (T : List It) (a : Act) (w : World) : Prop := ∀ (b : Frame) (k : List Item) (cs : List Frame), ∃ e a' w', (e = .normal ∨ e = .ret) ∧ Q a' w' ∧ Arrives P (lone (b.at a (T.map itemOf ++ k)) cs w) b k cs e a' w'
variable {Q : Act → World → Prop}
theorem Fin.step {T T' : List It} (hs : ∀ (b : Frame) (k : List Item) (cs : List Frame), step P (lone (b.at a (T.map itemOf ++ k)) cs w) = .next (lone (b.at a (T'.map itemOf ++ k)) cs w)) (h : Fin P Q T' a w) : Fin P Q T a w := fun b k cs => by
  obtain ⟨e, a', w', he, hq, harr⟩ := h b k cs
  exact ⟨e, a', w', he, hq, .of_steps (.one (hs b k cs)) harr⟩
theorem popTo_items {id : Nat} : ∀ {T T' : List It} (k : List Item), popTo id T = some T' → exitTo id (T.map itemOf ++ k) = some (T'.map itemOf ++ k)
  | [], T', k, h => by cases h
  | .blk j :: T, T', k, h => by
    unfold popTo at h
    show (if j == id then some (T.map itemOf ++ k) else exitTo id (T.map itemOf ++ k)) = _
    split at h
    · rename_i hb
      injection h with h
      have : id = j := Nat.eq_of_beq_eq_true hb
      rw [if_pos (by simp [this]), h]
    · rename_i hb
      have : id ≠ j := Nat.ne_of_beq_eq_false hb
      rw [if_neg (by simpa using fun e => this e.symm)]
      exact popTo_items k h
  | .code c :: T, T', k, h => popTo_items (T := T) k (by simpa [popTo] using h)
  | .lp c :: T, T', k, h => popTo_items (T := T) k (by simpa [popTo] using h)
  | .reg id' ops d :: T, T', k, h => popTo_items (T := T) k (by simpa [popTo] using h)
/-- Each region that may still come stands where it is told to. -/
def Good (L : List (Nat × List It)) : List It → Prop
  | [] => True
  | .code c :: T => (∀ p ∈ stacks c T, p ∈ L) ∧ Good L T
  | .blk _ :: T => Good L T
  | .lp c :: T => (∀ p ∈ stacks c (.lp c :: T), p ∈ L) ∧ Good L T
  | .reg _ _ _ :: T => Good L T
theorem Good.pop {L : List (Nat × List It)} {id : Nat} : ∀ {T T' : List It}, Good L T → popTo id T = some T' → Good L T'
  | [], T', h, hp => by cases hp
  | .blk j :: T, T', h, hp => by
    unfold popTo at hp
    split at hp
    · injection hp with hp
      subst hp
      exact h
    · exact Good.pop (T := T) h hp
  | .code c :: T, T', h, hp => Good.pop (T := T) h.2 (by simpa [popTo] using hp)
  | .lp c :: T, T', h, hp => Good.pop (T := T) h.2 (by simpa [popTo] using hp)
  | .reg id' ops d :: T, T', h, hp => Good.pop (T := T) h (by simpa [popTo] using hp)
theorem exec_ok {cf : Cfg} {ON : Orc ρ} (hO : OOk P C O r) (hN : OOkN P C ON r) (hQ : QOk P OQ) {stop : Nat → St → Option (Option ρ)} {ret : St → Option ρ} {L : List (Nat × List It)}
    (hret : ∀ s E Im a w, ret s = some r → Rel C E Im s a w → Q a w)
    (hstop : ∀ id ops d s T E Im a w, stop id s = some (some r) → (id, .reg id ops d :: T) ∈ L → Rel C E Im s a w → Fin P Q (.reg id ops d :: T) a w) :
    ∀ (n : Nat) (T : List It) (s : St) (E : Nat → Value) (Im : Nat → Prop) (a : Act) (w : World), exec O ON OQ cf stop ret n T s = some r → Good L T → Rel C E Im s a w → Fin P Q T a w
  | 0, T, s, E, Im, a, w, h, hG, hR => by cases h
  | n + 1, T, s, E, Im, a, w, h, hG, hR => by
    have ih := exec_ok (cf := cf) hO hN hQ hret hstop n
    unfold exec at h
    split at h
    · exact fun b k cs => ⟨.normal, a, w, .inl rfl, hret _ _ _ _ _ h hR, Steps.refl _ _⟩
    · exact Fin.step (fun b k cs => step_inBlock) (ih _ _ _ _ _ _ h hG hR)
    · rename_i c T
      exact Fin.step (fun b k cs => step_inLoop) (ih (.code c :: .lp c :: T) s E Im a w h ⟨hG.1, hG⟩ hR)
    · rename_i id ops draw T
      split at h
      · intro b k cs
        have hreg : (Code.region id ops false).wp P (fun e a' w' => match e with | .normal => Fin P Q T a' w' | _ => False) a w := by
          refine wp_region_list ?_
          exact runOps_ok (Q := fun e a' w' => match e with | .normal => Fin P Q T a' w' | _ => False) hO (fun E' Im' s' a' w' h' hR' => ih T s' E' Im' a' w' h' hG hR') ops.toList s E Im a w h hR
        obtain ⟨e, a1, w1, hq, harr⟩ := hreg b (T.map itemOf ++ k) cs
        cases e <;> simp only at hq
        obtain ⟨e2, a2, w2, he2, hq2, harr2⟩ := hq b k cs
        exact ⟨e2, a2, w2, he2, hq2, .of_steps harr harr2⟩
      · split at h
        rotate_left
        · intro b k cs
          have hreg : (Code.region id ops true).wp P (fun e a' w' => match e with | .normal => Fin P Q T a' w' | _ => False) a w := by
            split at h
            · exact runAllE_ok (Q := fun e a' w' => match e with | .normal => Fin P Q T a' w' | _ => False) hO hN (fun _ _ _ h => h) (fun E' Im' s' a' w' h' hR' => ih T s' E' Im' a' w' h' hG hR') h hR
            unfold runEW runER runEM at h
            exact runE_ok (hd := mid_ds) (Q := fun e a' w' => match e with | .normal => Fin P Q T a' w' | _ => False) hO (fun _ _ _ h => h) (fun E' Im' s' a' w' h' hR' => ih T s' E' Im' a' w' h' hG hR') h hR
          obtain ⟨e, a1, w1, hq, harr⟩ := hreg b (T.map itemOf ++ k) cs
          cases e <;> simp only at hq
          obtain ⟨e2, a2, w2, he2, hq2, harr2⟩ := hq b k cs
          exact ⟨e2, a2, w2, he2, hq2, .of_steps harr harr2⟩
        split at h
        · rename_i hB
          intro b k cs
          have hreg : (Code.region id ops true).wp P (fun e a' w' => match e with | .normal => Fin P Q T a' w' | _ => False) a w := by
            refine wp_region_quiet (C := Cls w) (Laws.mixed) hB ⟨⟨rfl, rfl, rfl⟩, Nat.le_refl _, fun _ _ => rfl⟩ ?_
            exact runOpsQ_ok (Q := fun e a' w' => match e with | .normal => Fin P Q T a' w' | _ => False) hQ (fun E' Im' s' a' w' h' hR' => ih T s' E' Im' a' w' h' hG hR') ops.toList s a h hR
          obtain ⟨e, a1, w1, hq, harr⟩ := hreg b (T.map itemOf ++ k) cs
          cases e <;> simp only at hq
          obtain ⟨e2, a2, w2, he2, hq2, harr2⟩ := hq b k cs
          exact ⟨e2, a2, w2, he2, hq2, .of_steps harr harr2⟩
        · cases h
    · rename_i c T
      split at h
      · exact Fin.step (fun b k cs => step_skip) (ih _ _ _ _ _ _ h hG.2 hR)
      · rename_i x y
        exact Fin.step (fun b k cs => step_seq) (ih (.code x :: .code y :: T) s E Im a w h ⟨fun p hp => hG.1 p (List.mem_append.2 (.inl hp)), fun p hp => hG.1 p (List.mem_append.2 (.inr hp)), hG.2⟩ hR)
      · rename_i o x y
        have both : ∀ (v : AV) (p : Prop) (i : Decidable p) (s1 s2 : St), @ite _ p i (exec O ON OQ cf stop ret n (.code x :: T) s1) (exec O ON OQ cf stop ret n (.code y :: T) s2) = some r → a.eval o = .bool (@decide p i) → (@decide p i = true → Rel C E Im s1 a w) → (@decide p i = false → Rel C E Im s2 a w) → Fin P Q (.code (.cond o x y) :: T) a w := by
          intro v p i s1 s2 h2 hb h3 h4
          cases i with
          | isTrue hp => exact Fin.step (T' := .code x :: T) (fun b k cs => by rw [show ((It.code x :: T).map itemOf ++ k) = .code (if true = true then x else y) :: (T.map itemOf ++ k) from rfl]; exact step_cond (t := true) (by rw [hb]; rfl)) (ih (.code x :: T) s1 E Im a w h2 ⟨fun p hp => hG.1 p (List.mem_append.2 (.inl hp)), hG.2⟩ (h3 rfl))
          | isFalse hp => exact Fin.step (T' := .code y :: T) (fun b k cs => by rw [show ((It.code y :: T).map itemOf ++ k) = .code (if false = true then x else y) :: (T.map itemOf ++ k) from rfl]; exact step_cond (t := false) (by rw [hb]; rfl)) (ih (.code y :: T) s2 E Im a w h2 ⟨fun p hp => hG.1 p (List.mem_append.2 (.inr hp)), hG.2⟩ (h4 rfl))
        split at h
        · rename_i t
          obtain ⟨v, p, i, hv, h2, hrep⟩ := onB_some h
          obtain ⟨u, hu, hr⟩ := hR.s.sl t v hv
          have hub := hrep _ _ _ _ _ hr
          have hev : a.eval (.tmp t) = .bool (@decide p i) := by
            have := hR.eval (x := .tmp t) hv
            exact hrep _ _ _ _ _ this
          exact both v p i _ _ h2 hev (fun e => hR.told hu (by rw [hub, e]; rfl)) (fun e => hR.told hu (by rw [hub, e]; rfl))
        · obtain ⟨v, p, i, hv, h2, hrep⟩ := onB_some h
          exact both v p i _ _ h2 (hrep _ _ _ _ _ (hR.eval hv)) (fun _ => hR) (fun _ => hR)
      · rename_i id x
        exact Fin.step (fun b k cs => step_block) (ih (.code x :: .blk id :: T) s E Im a w h ⟨hG.1, hG.2⟩ hR)
      · rename_i x
        exact Fin.step (fun b k cs => step_loop) (ih (.code x :: .lp x :: T) s E Im a w h ⟨hG.1, hG.1, hG.2⟩ hR)
      · rename_i id
        split at h
        · rename_i T' hp
          exact Fin.step (fun b k cs => step_exit (popTo_items k hp)) (ih T' s E Im a w h (Good.pop hG.2 hp) hR)
        · cases h
      · exact fun b k cs => ⟨.ret, a, w, .inr rfl, hret _ _ _ _ _ h hR, _, .one step_ret⟩
      · rename_i id ops draw
        split at h
        · rename_i q hq
          subst h
          exact hstop id ops draw s T E Im a w hq (hG.1 _ (List.mem_singleton.2 rfl)) hR
        · exact ih (.reg id ops draw :: T) s E Im a w h hG.2 hR
      · cases h
end
end Go.Proofs.YtnlnjcgoodgmbaaM
