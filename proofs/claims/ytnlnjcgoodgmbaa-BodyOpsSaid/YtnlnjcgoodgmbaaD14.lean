/- THE DEN MACHINE, fourteenth part: a printed function is shown. -/
import Derived.Test.YtnlnjcgoodgmbaaD12
import Derived.Test.YtnlnjcgoodgmbaaD13
set_option linter.unusedVariables false
set_option linter.unusedSectionVars false
namespace Go.Proofs.YtnlnjcgoodgmbaaM
open Go.RowKit Go.Proofs.YtnlnjcgoodgmbaaW.PrintWords Go.Proofs.YtnlnjcgoodgmbaaW.PrintLast
open Tys Tab Kds
variable [Tys] [Tab] [Kds]
theorem fok {P : Program} [Laws P] {md : Nat} {ren : List Nat} {cf : Cfg} {f : Nat} {fn : Func} {c : Code} (hf : P.funcs[f]? = some fn) (hb : fn.body = some c) (hname : (fn.name == "runtime.NumGoroutine") = false) {S R : Type} {rets : List (Ret R)} {onR : (ρ : Type) → R → (AV → List Ob → Option ρ) → Option ρ}
    (hK : ∀ p ∈ rets, ∀ t u ρ (K : AV → List Ob → Option ρ), onR ρ (p.F t u) K = K (p.s.enc t) (encO p.osh u)) {ash : List Sh} {aosh : List OSh} (hle : Nat.ble ash.length fn.ntmps = true) (hnd : nodupB ((stacks (bodyOf fn) []).map (·.1)) = true) {F : TyL ash → TyO aosh → Option R} {go : Nat → S → Option R} {stps : List (Stp S)} {Ok Nk : Nat → Orc R} {Qk : Nat → QOrc} (k : Nat)
    (h0 : ∀ x, go 0 x = none) (hL : ∀ p ∈ stps, liveS stps p.id = some p.L)
    (hs : ∀ p ∈ stps, ∀ k t u, runF ren cf (Ok k) (Nk k) (Qk k) fn (liveS stps) aosh.length (stpJ (go k) stps) (retD rets) (stackAt (bodyOf fn) p.id) (mkS md fn.ntmps p.L (encL p.sh t) (encO p.osh u)) = go (k + 1) (p.to t u))
    (hr : ∀ t u, runF ren cf (Ok k) (Nk k) (Qk k) fn (liveS stps) aosh.length (stpJ (go k) stps) (retD rets) [.code (bodyOf fn)] (mkS md fn.ntmps (upto ash.length) (encL ash t) (encO aosh u)) = F t u)
    (hO : ∀ C k', k' ≤ k → ∀ r, OOk P C (Ok k') r) (hN : ∀ C k', k' ≤ k → ∀ r, OOkN P C (Nk k') r) (hQ : ∀ k', k' ≤ k → QOk P (Qk k')) : FOk P f (cpsOf ash aosh F onR) := by
  refine ⟨⟨fn, hf, hname, by rw [hb]; rfl⟩, fun ρ args obs Kf r h E Im w vals hH hA => ?_⟩
  unfold cpsOf at h
  split at h
  rotate_left
  · cases h
  rename_i t ht
  obtain ⟨e1, e2⟩ := decA_some ht
  subst e1 e2
  obtain ⟨r0, h1, h2⟩ := Option.bind_eq_some_iff.1 h
  rw [← hr t.1 t.2] at h1
  have hlen : (encO aosh t.2).length = aosh.length := encO_len _ _
  have hlenA : (encL ash t.1).length = ash.length := encL_len _ _
  rw [← hlenA] at h1
  have key := calls_ok (P := P) (md := md) (ren := ren) (cf := cf) (f := f) (fn := fn) (c := c) hf hb (r := r0) (k := k) (Ok := Ok) (Nk := Nk) (Qk := Qk) (live := liveS stps) (J := fun k => stpJ (go k) stps) (Kf := retD rets) (args := encL ash t.1) (obs := encO aosh t.2) (by rw [hlenA]; exact Nat.le_of_ble_eq_true hle) (nodupB_ok hnd)
    (fun id vs obs h => by
      obtain ⟨p, _, _, t, _, _, h⟩ := stpJ_some h
      rw [h0] at h
      cases h)
    (fun k id L vs obs' hlv h => by
      obtain ⟨p, hp, hid, t, e1, e2, h9⟩ := stpJ_some h
      subst hid e1 e2
      rw [hL p hp] at hlv
      injection hlv with hlv
      subst hlv
      rw [hlen, hs p hp k t.1 t.2]
      exact h9)
    (by rw [hlen]; exact h1) (fun C k' h' => hO C k' h' r0) (fun C k' h' => hN C k' h' r0) hQ E Im w vals (hH.other fn.ntmps) hA
  refine key.mono fun e w' hh => ?_
  obtain ⟨v, E', Im', res, obs', e1, h3, h4, h5⟩ := hh
  obtain ⟨p, hp, t', u', e2, e3, e4⟩ := retD_some h3
  have h6 := hK p hp t' u' ρ Kf
  rw [e4, ← e2, ← e3] at h6
  exact ⟨v, E', Im', res, obs', e1, h6.symm.trans h2, h4.other 0, h5⟩
theorem fok0 {P : Program} {f : Nat} {fn : Func} (hf : P.funcs[f]? = some fn) (hb : fn.body.isSome = true) (hname : (fn.name == "runtime.NumGoroutine") = false) {R : Type} {onR : (ρ : Type) → R → (AV → List Ob → Option ρ) → Option ρ} {ash : List Sh} {aosh : List OSh} {F : TyL ash → TyO aosh → Option R} (h0 : ∀ t u, F t u = none) : FOk P f (cpsOf ash aosh F onR) := by
  refine ⟨⟨fn, hf, hname, hb⟩, fun ρ args obs Kf r h E Im w vals hH hA => ?_⟩
  unfold cpsOf at h
  split at h
  · rw [h0] at h
    cases h
  · cases h
/-- Calls in regions whose order is drawn: by a table. -/
structure QEnt where
  f : Nat
  ash : List Sh
  R : Type
  F : TyL ash → Option R
  enc : R → AV
def orcQ : List QEnt → QOrc
  | [], _, _, _ => none
  | e :: l, f, vs, s => match Nat.beq f e.f with
    | true => match decL e.ash (rnL (frzS (lentIds [] vs) s) [] vs) with
      | some t => some ⟨e.R, e.F t, e.enc⟩
      | none => orcQ l f vs s
    | false => orcQ l f vs s
theorem orcQ_ok {P : Program} [Laws P] : ∀ (l : List QEnt), (∀ e ∈ l, FOk P e.f (cpsOf e.ash [] (fun t _ => e.F t) (fun ρ r K => K (e.enc r) []))) → QOk P (orcQ l)
  | [], _ => fun f vs s q h => by cases h
  | e :: l, hl => fun f vs s q h => by
    unfold orcQ at h
    split at h
    · rename_i hb
      split at h
      · rename_i t ht
        injection h with h
        subst h
        have hF := hl e List.mem_cons_self
        rw [Nat.eq_of_beq_eq_true hb]
        refine ⟨hF.1, fun r0 hx hsc => ?_⟩
        have key : ∀ u, (∀ E nx w Im u', Rep E nx w Im (e.enc r0) u' → u' = u) → ∀ C E Im a w (vals : List Value), Rel C E Im s a w → RepL E s.nx w Im vs vals → Calls P e.f vals.toArray w (fun e w' => e = .returned u ∧ Cls w w') := by
          intro u hu C E Im a w vals hR hA
          obtain ⟨Imc, hi, hR1, hlk, hnx⟩ := frz_ok (lentIds [] vs) s Im hR
          generalize frzS (lentIds [] vs) s = s1 at ht hR1 hlk hnx
          have hA1 : RepL (En E []) ([] : List Ob).length w Imc (rnL s1 [] vs) vals := rnL_rep (s := s1) hR1.h.fro [] vs vals (RepL.step (fun _ _ _ => rfl) hi (fun _ _ => rfl) (by omega) vs vals hA)
          have hH1 : HRel (ctx0 w [] (En E []) Imc 0) (En E []) Imc ([] : List Ob).length (hpFrom 0 []) w := ⟨hR1.h.im, fun i o h => (by cases h), fun i j oi oj k hij h => (by cases h), fun i o k h => (by cases h), fun i o k h => (by cases h), Nat.le_refl _, fun _ _ _ => rfl, Same.refl _, fun k hk => .inl hk, Nat.le_refl _, fun _ _ => rfl, fun _ hk => hk⟩
          have hc : cpsOf e.ash [] (fun t _ => e.F t) (fun ρ r K => K (e.enc r) []) (AV × List Ob) (rnL s1 [] vs) [] (fun v o => some (v, o)) = some (e.enc r0, []) := by
            unfold cpsOf decA
            rw [ht]
            show Option.bind (e.F t) _ = _
            rw [show e.F t = some r0 from hx]
            rfl
          refine (hF.2 _ _ _ _ _ hc _ _ _ _ hH1 hA1).mono fun en w' hh => ?_
          obtain ⟨v, E', Im', res, obs', e1, h1, h2, h3⟩ := hh
          injection h1 with h1
          injection h1 with e2 e3
          subst e2 e3
          refine ⟨by rw [e1, hu _ _ _ _ _ h3], h2.same, h2.size, fun k hk => h2.frame k hk ?_⟩
          rintro ⟨i, o, h4, _⟩
          simp at h4
        cases hv : e.enc r0 with
        | int k n => exact ⟨.int k n, fun _ _ _ _ => by show Rep _ _ _ _ (e.enc r0) _; rw [hv]; rfl, key _ (fun _ _ _ _ u' h => by rw [hv] at h; exact h)⟩
        | bo b => exact ⟨.bool b, fun _ _ _ _ => by show Rep _ _ _ _ (e.enc r0) _; rw [hv]; rfl, key _ (fun _ _ _ _ u' h => by rw [hv] at h; exact h)⟩
        | str b => exact ⟨.string b, fun _ _ _ _ => by show Rep _ _ _ _ (e.enc r0) _; rw [hv]; rfl, key _ (fun _ _ _ _ u' h => by rw [hv] at h; exact h)⟩
        | _ => 
          have hsc : scalarB (e.enc r0) = true := hsc
          rw [hv] at hsc
          cases hsc
      · exact orcQ_ok l (fun x hx => hl x (List.mem_cons_of_mem _ hx)) f vs s q h
    · exact orcQ_ok l (fun x hx => hl x (List.mem_cons_of_mem _ hx)) f vs s q h
end Go.Proofs.YtnlnjcgoodgmbaaM
