/- THE DEN MACHINE, eleventh part: functions. -/
import Derived.Test.YtnlnjcgoodgmbaaD10
set_option linter.unusedVariables false
set_option linter.unusedSectionVars false
namespace Go.Proofs.YtnlnjcgoodgmbaaM
open Go.RowKit Go.Proofs.YtnlnjcgoodgmbaaW.PrintWords Go.Proofs.YtnlnjcgoodgmbaaW.PrintLast
open Tys Tab Kds
variable [Tys] [Tab] [Kds]
section
variable {P : Program} [Laws P] {C : Ctx} {E : Nat → Value} {Im : Nat → Prop} {s : St} {a : Act} {w w' : World} {ρ : Type} {r : ρ} {O : Orc ρ} {OQ : QOrc}
theorem run_resVars (hR : Rel C E Im s a w) : ∀ (rs : List ResultVar) (K : List AV → Option ρ), resL s rs K = some r → ∃ vs us, K vs = some r ∧ RepL E s.nx w Im vs us ∧ (rs.mapM fun (x : ResultVar) => (match x with
    | .tmp t => pure (a.tmps.getD t undef)
    | .cell d t => do loadVar t (← asAddr (a.tmps.getD d undef)) : Sem Value)).run P w = .ok us w
  | [], K, h => ⟨[], [], h, rfl, rfl⟩
  | .tmp t :: rs, K, h => by
    unfold resL at h
    split at h
    · rename_i v hv
      obtain ⟨vs, us, h1, h2, h3⟩ := run_resVars hR rs _ h
      obtain ⟨u, hu, hr⟩ := hR.s.sl t v hv
      refine ⟨v :: vs, u :: us, h1, ⟨u, us, rfl, hr, h2⟩, ?_⟩
      rw [List.mapM_cons]
      have e : a.tmps.getD t undef = u := by rw [Array.getD_eq_getD_getElem?, hu]; rfl
      simp only [Sem.run_bind, e, Sem.run_pure, Result.andThen_ok, h3]
    · cases h
  | .cell d t :: rs, K, h => by
    unfold resL at h
    split at h
    · rename_i i off hv
      split at h
      · rename_i tb cs hlk
        obtain ⟨u, hu, hr⟩ := hR.s.sl d _ hv
        obtain ⟨hi, g, hE, ex⟩ := hr
        have hob := (hR.h.ob i _ (look_some hlk (by simp))).2
        obtain ⟨g', xs, hE', hg, hl, h1⟩ := hob
        rw [hE] at hE'
        injection hE' with hE'
        injection hE' with hE'
        injection hE' with hE'
        subst hE'
        have hz := ofCells_ne (n := 0) h
        obtain ⟨v, z, hk, hrun, hrep⟩ := run_loadAt (P := P) (s := s) (ad := ⟨g, off, none⟩) hz (vs := (xs.drop off).take (szOf t)) (fun q u hq => by
          rw [List.getElem?_take] at hq
          split at hq
          · rw [List.getElem?_drop] at hq
            rw [add_at, blk_cell hg]
            simpa using hq
          · cases hq) (RepL.take _ (RepL.drop off hl)) (fun u hu => h1 u (List.mem_of_mem_drop (List.mem_of_mem_take hu))) h
        obtain ⟨vs, us, h4, h5, h6⟩ := run_resVars hR rs _ hk
        refine ⟨v :: vs, z :: us, h4, ⟨z, us, rfl, hrep, h5⟩, ?_⟩
        rw [List.mapM_cons]
        have e : a.tmps.getD d undef = .pointer (some ⟨g, off, none⟩) := by rw [Array.getD_eq_getD_getElem?, hu, ex]; rfl
        have hrun' : (loadVar t ⟨g, off, none⟩).run P w = .ok z w := by simpa [Instr.loadAt, Instr.sureAddr] using hrun
        have ha : (asAddr (.pointer (some ⟨g, off, none⟩))).run P w = .ok ⟨g, off, none⟩ w := rfl
        have hh : (do loadVar t (← asAddr (a.tmps.getD d undef)) : Sem Value).run P w = .ok z w := by
          rw [Sem.run_bind, e, ha]
          exact hrun'
        rw [Sem.run_bind]
        refine (congrArg (fun x => Result.andThen x _) hh).trans ?_
        rw [Result.andThen_ok, Sem.run_bind]
        refine (congrArg (fun x => Result.andThen x _) h6).trans ?_
        rfl
      · cases h
    · cases h
theorem run_results (hR : Rel C E Im s a w) {fn : Func} {K : AV → Option ρ} (h : (resL s fn.results.toList fun vs => resV vs K) = some r) : ∃ v u, K v = some r ∧ Rep E s.nx w Im v u ∧ (results fn a.tmps).run P w = .ok u w := by
  obtain ⟨vs, us, h1, h2, h3⟩ := run_resVars (P := P) hR fn.results.toList _ h
  have h4 : (fn.results.mapM fun (x : ResultVar) => (match x with
    | .tmp t => pure (a.tmps.getD t undef)
    | .cell d t => do loadVar t (← asAddr (a.tmps.getD d undef)) : Sem Value)).run P w = .ok us.toArray w := by
    rw [← Array.toArray_toList (xs := fn.results), List.mapM_toArray]
    simp only [Sem.run_map, h3, Result.andThen_ok]
  have h5 : (results fn a.tmps).run P w = .ok (if h : us.toArray.size = 1 then us.toArray[0] else .tuple us.toArray) w := by
    unfold results
    rw [Sem.run_bind]
    refine (congrArg (fun x => Result.andThen x _) h4).trans ?_
    rfl
  unfold resV at h1
  split at h1
  · rename_i v
    obtain ⟨u, us', rfl, hr, hl⟩ := h2
    obtain rfl : us' = [] := hl
    exact ⟨v, u, h1, hr, h5⟩
  · rename_i hne
    refine ⟨.tup vs, .tuple us.toArray, h1, ⟨us, rfl, h2⟩, ?_⟩
    rw [h5]
    have : ¬ us.toArray.size = 1 := by
      rw [List.size_toArray, ← RepL.length h2]
      intro e
      obtain ⟨v, hv⟩ := List.length_eq_one_iff.1 e
      exact hne v hv
    rw [dif_neg this]
/-- What a function's end leaves. -/
def Ends (P : Program) (C : Ctx) (fn : Func) (Kf : AV → List Ob → Option ρ) (r : ρ) (a : Act) (w : World) : Prop := ∃ v u E' Im' obs', Kf v obs' = some r ∧ HRel C E' Im' obs'.length (hpFrom 0 obs') w ∧ Rep E' obs'.length w Im' v u ∧ (results fn a.tmps).run P w = .ok u w ∧ a.defers = []
theorem ret_ok {ren : List Nat} {fn : Func} {Kf : AV → List Ob → Option ρ} (hR : Rel C E Im s a w) (h : retK fn.results.toList C.np ren Kf s = some r) : Ends P C fn Kf r a w := by
  obtain ⟨E, hR⟩ := renAll_ok ren E s hR
  unfold retK retS at h
  obtain ⟨v, u, h1, h2, h3⟩ := run_results (P := P) hR h
  obtain ⟨m, hm, hnp, hle, h4⟩ := canonK_some h1
  have e : rnL (renAll ren s) m [v] = [rn (renAll ren s) m v] := by unfold rnL rnL; rfl
  rw [e] at h4
  refine ⟨rn (renAll ren s) m v, u, En E m, Im, obsOf (renAll ren s) m m, h4, ?_, ?_, h3, hR.s.defers⟩
  · rw [obsOf_len]
    exact hR.h.canon hm hnp
  · rw [obsOf_len]
    exact rn_rep hR.h.fro m v u h2
theorem stacks_good {L : List (Nat × List It)} : ∀ (c : Code) (T : List It), Good L T → (∀ p ∈ stacks c T, p ∈ L) → ∀ p ∈ stacks c T, ∃ ops d T', p.2 = .reg p.1 ops d :: T' ∧ Good L T'
  | .seq x y, T, hG, hL, p, hp => by
    unfold stacks at hp hL
    rcases List.mem_append.1 hp with hp | hp
    · exact stacks_good x (.code y :: T) ⟨fun q hq => hL q (List.mem_append.2 (.inr hq)), hG⟩ (fun q hq => hL q (List.mem_append.2 (.inl hq))) p hp
    · exact stacks_good y _ hG (fun q hq => hL q (List.mem_append.2 (.inr hq))) p hp
  | .cond o x y, T, hG, hL, p, hp => by
    unfold stacks at hp hL
    rcases List.mem_append.1 hp with hp | hp
    · exact stacks_good x _ hG (fun q hq => hL q (List.mem_append.2 (.inl hq))) p hp
    · exact stacks_good y _ hG (fun q hq => hL q (List.mem_append.2 (.inr hq))) p hp
  | .block id x, T, hG, hL, p, hp => by
    unfold stacks at hp hL
    exact stacks_good x (.blk id :: T) hG hL p hp
  | .loop x, T, hG, hL, p, hp => by
    unfold stacks at hp hL
    exact stacks_good x (.lp x :: T) ⟨hL, hG⟩ hL p hp
  | .region id ops draw, T, hG, hL, p, hp => by
    unfold stacks at hp
    rw [List.mem_singleton.1 hp]
    exact ⟨ops, draw, T, rfl, hG⟩
  | .skip, T, hG, hL, p, hp => by simp [stacks] at hp
  | .exit _, T, hG, hL, p, hp => by simp [stacks] at hp
  | .ret, T, hG, hL, p, hp => by simp [stacks] at hp
  | .rangeFunc _ _ _ _, T, hG, hL, p, hp => by simp [stacks] at hp
  | .goto _, T, hG, hL, p, hp => by simp [stacks] at hp
  | .label _, T, hG, hL, p, hp => by simp [stacks] at hp
  | .scope _, T, hG, hL, p, hp => by simp [stacks] at hp
  | .refuse _, T, hG, hL, p, hp => by simp [stacks] at hp
theorem get_of_mem {α : Type} : ∀ {l : List (Nat × α)} {i : Nat} {x : α}, (l.map (·.1)).Nodup → (i, x) ∈ l → get l i = some x
  | [], i, x, _, h => by cases h
  | (j, y) :: l, i, x, hn, h => by
    rw [get_cons]
    rw [List.map_cons, List.nodup_cons] at hn
    rcases List.mem_cons.1 h with e | h
    · injection e with e1 e2
      rw [if_pos e1, e2]
    · rw [if_neg (fun e => hn.1 (by rw [← e]; exact List.mem_map.2 ⟨(i, x), h, rfl⟩))]
      exact get_of_mem hn.2 h
section
variable {fn : Func} {ren : List Nat} {cf : Cfg} {md : Nat} {Ok Nk : Nat → Orc ρ} {Qk : Nat → QOrc} {live : Nat → Option (List Nat)} {J : Nat → Nat → List AV → List Ob → Option ρ} {Kf : AV → List Ob → Option ρ}
/-- What a run answers, its stops shown so far. -/
theorem run_ok {k : Nat} (hO : OOk P C (Ok k) r) (hN : OOkN P C (Nk k) r) (hQ : QOk P (Qk k)) (hnd : ((stacks (bodyOf fn) []).map (·.1)).Nodup)
    (ih : ∀ id L vs obs E Im a w T, live id = some L → (id, T) ∈ stacks (bodyOf fn) [] → J k id vs obs = some r → Rel C E Im (mkS md C.n L vs obs) a w → Fin P (Ends P C fn Kf r) T a w)
    (n : Nat) (T : List It) (s : St) (h : runF ren cf (Ok k) (Nk k) (Qk k) fn live C.np (J k) Kf T s = some r) (hG : Good (stacks (bodyOf fn) []) T) (hR : Rel C E Im s a w) : Fin P (Ends P C fn Kf r) T a w := by
  unfold runF at h
  refine exec_ok (P := P) hO hN hQ (L := stacks (bodyOf fn) []) (fun s E Im a w h hR => ret_ok hR h) (fun id ops d s T E Im a w hs hm hR => ?_) _ T s E Im a w h hG hR
  unfold stopK at hs
  split at hs
  · rename_i L hL
    injection hs with hs
    obtain ⟨E, hR⟩ := renAll_ok ren E s hR
    obtain ⟨vs, h1, h2⟩ := pick_some hs
    obtain ⟨m, hm', hnp, hle, h3⟩ := canonK_some h1
    have hR' := hR.canon (md := md) hm' hnp h2
    rw [hR.n] at hR'
    exact ih id L _ _ _ _ a w _ hL hm h3 hR'
  · cases hs
theorem stops_ok (hnd : ((stacks (bodyOf fn) []).map (·.1)).Nodup) (hJ0 : ∀ id vs obs, J 0 id vs obs ≠ some r)
    (hJ : ∀ k id L vs obs, live id = some L → J (k + 1) id vs obs = some r → runF ren cf (Ok k) (Nk k) (Qk k) fn live C.np (J k) Kf (stackAt (bodyOf fn) id) (mkS md C.n L vs obs) = some r) :
    ∀ (k id : Nat) (L : List Nat) (vs : List AV) (obs : List Ob) (E : Nat → Value) (Im : Nat → Prop) (a : Act) (w : World) (T : List It), (∀ k', k' ≤ k → OOk P C (Ok k') r) → (∀ k', k' ≤ k → OOkN P C (Nk k') r) → (∀ k', k' ≤ k → QOk P (Qk k')) → live id = some L → (id, T) ∈ stacks (bodyOf fn) [] → J k id vs obs = some r → Rel C E Im (mkS md C.n L vs obs) a w → Fin P (Ends P C fn Kf r) T a w
  | 0, id, L, vs, obs, E, Im, a, w, T, hO, hN, hQ, hL, hm, h, hR => absurd h (hJ0 _ _ _)
  | k + 1, id, L, vs, obs, E, Im, a, w, T, hO, hN, hQ, hL, hm, h, hR => by
    have h1 := hJ k id L vs obs hL h
    have e : stackAt (bodyOf fn) id = T := by
      unfold stackAt
      rw [get_of_mem hnd hm]
    rw [e] at h1
    obtain ⟨ops, d, T', e2, hG⟩ := stacks_good (bodyOf fn) [] trivial (fun p hp => hp) (id, T) hm
    have e3 : T = .reg id ops d :: T' := e2
    refine run_ok (hO k (Nat.le_succ k)) (hN k (Nat.le_succ k)) (hQ k (Nat.le_succ k)) hnd (fun id L vs obs E Im a w T hL hm h hR => stops_ok hnd hJ0 hJ k id L vs obs E Im a w T (fun k' h => hO k' (Nat.le_succ_of_le h)) (fun k' h => hN k' (Nat.le_succ_of_le h)) (fun k' h => hQ k' (Nat.le_succ_of_le h)) hL hm h hR) 0 T _ h1 ?_ hR
    rw [e3]
    exact hG
end
def mbs (obs : List Ob) (E : Nat → Value) : Nat → Prop := fun k => ∃ (i : Nat) (o : Ob), obs[i]? = some o ∧ o.mb (E i) = some k
/-- What a call begins with. -/
def ctx0 (w : World) (obs : List Ob) (E : Nat → Value) (Im : Nat → Prop) (n : Nat) : Ctx := ⟨w, mbs obs E, Im, obs.length, E, n⟩
theorem calls_ok {ren : List Nat} {cf : Cfg} {md : Nat} {f : Nat} {fn : Func} {c : Code} (hf : P.funcs[f]? = some fn) (hb : fn.body = some c) {k : Nat} {Ok Nk : Nat → Orc ρ} {Qk : Nat → QOrc} {live : Nat → Option (List Nat)} {J : Nat → Nat → List AV → List Ob → Option ρ} {Kf : AV → List Ob → Option ρ} {args : List AV} {obs : List Ob} (hle : args.length ≤ fn.ntmps)
    (hnd : ((stacks (bodyOf fn) []).map (·.1)).Nodup) (hJ0 : ∀ id vs obs, J 0 id vs obs ≠ some r)
    (hJ : ∀ k id L vs obs', live id = some L → J (k + 1) id vs obs' = some r → runF ren cf (Ok k) (Nk k) (Qk k) fn live obs.length (J k) Kf (stackAt (bodyOf fn) id) (mkS md fn.ntmps L vs obs') = some r)
    (h : runF ren cf (Ok k) (Nk k) (Qk k) fn live obs.length (J k) Kf [.code (bodyOf fn)] (mkS md fn.ntmps (upto args.length) args obs) = some r)
    (hO : ∀ C k', k' ≤ k → OOk P C (Ok k') r) (hN : ∀ C k', k' ≤ k → OOkN P C (Nk k') r) (hQ : ∀ k', k' ≤ k → QOk P (Qk k')) (E : Nat → Value) (Im : Nat → Prop) (w : World) (vals : List Value) (hH : HRel (ctx0 w obs E Im fn.ntmps) E Im obs.length (hpFrom 0 obs) w) (hA : RepL E obs.length w Im args vals) :
    Calls P f vals.toArray w (fun e w' => ∃ v E' Im' res obs', e = .returned v ∧ Kf res obs' = some r ∧ HRel (ctx0 w obs E Im fn.ntmps) E' Im' obs'.length (hpFrom 0 obs') w' ∧ Rep E' obs'.length w' Im' res v) := by
  have hbo : bodyOf fn = c := by unfold bodyOf; rw [hb]
  have hlen := RepL.length hA
  have hR : Rel (ctx0 w obs E Im fn.ntmps) E Im (mkS md fn.ntmps (upto args.length) args obs) { tmps := vals.toArray ++ Array.replicate (fn.ntmps - vals.toArray.size) undef, defers := [] } w := by
    refine ⟨hH, ⟨fun i v h => ?_, fun i v h => ?_, ?_, rfl⟩, rfl⟩
    · obtain ⟨q, h1, h2⟩ := zipS_get (show get (zipS (upto args.length) args) i = some v from h)
      have hq : q < args.length := (List.getElem?_eq_some_iff.1 h2).1
      rw [upto_get hq] at h1
      injection h1 with h1
      subst h1
      obtain ⟨u, hu, hr⟩ := RepL.get hA h2
      refine ⟨u, ?_, hr⟩
      rw [Array.getElem?_append_left (by simp; omega)]
      simpa using hu
    · obtain ⟨q, h1, h2⟩ := zipS_get (show get (zipS (upto args.length) args) i = some v from h)
      have hq : q < args.length := (List.getElem?_eq_some_iff.1 h2).1
      rw [upto_get hq] at h1
      injection h1 with h1
      subst h1
      show q < fn.ntmps
      omega
    · show fn.ntmps ≤ _
      simp
      omega
  have hfin := run_ok (P := P) (fn := fn) (Kf := Kf) (hO (ctx0 w obs E Im fn.ntmps) k (Nat.le_refl k)) (hN (ctx0 w obs E Im fn.ntmps) k (Nat.le_refl k)) (hQ k (Nat.le_refl k)) hnd (fun id L vs obs' E' Im' a w' T hL hm h hR => stops_ok (P := P) (cf := cf) hnd hJ0 (fun k id L vs obs' h1 h2 => hJ k id L vs obs' h1 h2) k id L vs obs' E' Im' a w' T (fun k' h => hO _ k' h) (fun k' h => hN _ k' h) hQ hL hm h hR) 0 [.code (bodyOf fn)] _ h ⟨fun p hp => hp, trivial⟩ hR
  refine calls_of_wp hf hb ?_
  rw [← hbo]
  intro b kk cs
  obtain ⟨e, a', w', he, hq, harr⟩ := hfin b kk cs
  refine ⟨e, a', w', ?_, harr⟩
  obtain ⟨v, u, E', Im', obs', h1, h2, h3, h4, h5⟩ := hq
  rcases he with rfl | rfl
  · exact ⟨h5, u, h4, u, E', Im', v, obs', rfl, h1, h2, h3⟩
  · exact ⟨h5, u, h4, u, E', Im', v, obs', rfl, h1, h2, h3⟩
end
end Go.Proofs.YtnlnjcgoodgmbaaM
