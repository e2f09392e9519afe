/- THE DEN MACHINE, eighteenth part: a law's call. -/
import Derived.Test.YtnlnjcgoodgmbaaD16
set_option linter.unusedVariables false
set_option linter.unusedSectionVars false
namespace Go.Proofs.YtnlnjcgoodgmbaaM
open Go.RowKit Go.Proofs.YtnlnjcgoodgmbaaW.PrintWords
open Tys Tab Kds
variable [Tys] [Tab] [Kds]
/-- A call whose arguments are read alone, and that answers true. -/
theorem law_calls {P : Program} {f : Nat} {ash : List Sh} {F : TyL ash → Option Bool} (hF : FOk P f (cpsOf ash [] (fun t _ => F t) (fun ρ r K => K (.bo r) []))) (t : TyL ash) (h : F t = some true) (w : World) (vals : List Value)
    (hA : ∀ E, RepL E 0 w (fun k => k < w.heap.size) (encL ash t) vals) (hd : decL ash (encL ash t) = some t) :
    Calls P f vals.toArray w (fun e w' => e = .returned (.bool true) ∧ Below w.heap.size w w') := by
  have hc : cpsOf ash [] (fun t _ => F t) (fun ρ r K => K (.bo r) []) (AV × List Ob) (encL ash t) [] (fun v o => some (v, o)) = some (.bo true, []) := by
    unfold cpsOf decA
    rw [hd]
    show Option.bind (F t) _ = _
    rw [h]
    rfl
  have hH : HRel (ctx0 w [] (fun _ => .nilIface) (fun k => k < w.heap.size) 0) (fun _ => .nilIface) (fun k => k < w.heap.size) ([] : List Ob).length (hpFrom 0 []) w := ⟨fun _ h => h, fun i o h => (by cases h), fun i j oi oj k hij h => (by cases h), fun i o k h => (by cases h), fun i o k h => (by cases h), Nat.le_refl _, fun _ _ _ => rfl, Same.refl _, fun k hk => .inl hk, Nat.le_refl _, fun _ _ => rfl, fun _ hk => hk⟩
  refine (hF.2 _ _ _ _ _ hc _ _ _ _ hH (hA _)).mono fun en w' hh => ?_
  obtain ⟨v, E', Im', res, obs', e1, h1, h2, h3⟩ := hh
  injection h1 with h1
  injection h1 with e2 e3
  subst e2 e3
  have hv : v = .bool true := h3
  refine ⟨by rw [e1, hv], ⟨h2.same.1, h2.same.2.1, h2.same.2.2, h2.size, fun k hk => h2.frame k hk ?_⟩⟩
  rintro ⟨i, o, h4, _⟩
  simp at h4
theorem castT_self (t : Nat) (xs : List (El t)) : castT t t xs = some xs := by
  unfold castT
  split
  · rfl
  · rename_i h _
    exact absurd rfl h
mutual
theorem dec_self : ∀ (s : Sh) (t : s.Ty), s.dec (s.enc t) = some t
  | .int k, t => by
    cases k <;> rfl
  | .bo, t => rfl
  | .str, t => rfl
  | .agg l, t => decL_self l t
  | .tup l, t => decL_self l t
  | .rop l, t => decL_self l t
  | .fn f l, t => by
    show (match Nat.beq f f with | true => decL l (encL l t) | false => none) = some t
    rw [Nat.beq_refl]
    exact decL_self l t
  | .bm f l, t => by
    show (match Nat.beq f f with | true => decL l (encL l t) | false => none) = some t
    rw [Nat.beq_refl]
    exact decL_self l t
  | .vro f l, t => by
    show (match Nat.beq f f with | true => decL l (encL l t) | false => none) = some t
    rw [Nat.beq_refl]
    exact decL_self l t
  | .mp i, t => by
    show okIf (Nat.beq i i) = some t
    rw [Nat.beq_refl]
    rfl
  | .elp i b off, t => by
    show (match Nat.beq i i && Nat.beq b b && Nat.beq off off with | true => some t | false => none) = some t
    rw [Nat.beq_refl, Nat.beq_refl, Nat.beq_refl]
    rfl
  | .nilf, t => rfl
  | .nilm, t => rfl
  | .ifc b s, t => by
    show (match Nat.beq b b with | true => Sh.dec s (Sh.enc s t) | false => none) = some t
    rw [Nat.beq_refl]
    exact dec_self s t
  | .ro e, t => castT_self e t
  | .nili, t => rfl
  | .nils, t => rfl
  | .nilp, t => rfl
  | .own i, t => by
    show okIf (Nat.beq i i) = some t
    rw [Nat.beq_refl]
    rfl
  | .ptr i off, t => by
    show okIf (Nat.beq i i && Nat.beq off off) = some t
    rw [Nat.beq_refl, Nat.beq_refl]
    rfl
  | .lost, t => rfl
theorem decL_self : ∀ (l : List Sh) (t : TyL l), decL l (encL l t) = some t
  | [], t => rfl
  | a :: l, t => by
    show (match Sh.dec a (Sh.enc a t.1) with | some x => (match decL l (encL l t.2) with | some y => some (x, y) | none => none) | none => none) = some t
    rw [dec_self a t.1, decL_self l t.2]
    rfl
end
/-- A law's call: what came in reads as it must; the function, told in plain Lean, answers true. -/
theorem law_walk {P : Program} {f : Nat} {ash : List Sh} {F : TyL ash → Option Bool} (hF : FOk P f (cpsOf ash [] (fun t _ => F t) (fun ρ r K => K (.bo r) []))) (t : TyL ash) (h : F t = some true) (w : World) (vals : List Value)
    (hA : ∀ E, RepL E 0 w (fun k => k < w.heap.size) (encL ash t) vals) : Calls P f vals.toArray w (fun e w' => e = .returned (.bool true) ∧ Below w.heap.size w w') := law_calls hF t h w vals hA (decL_self ash t)
theorem law_reps {α : Type} {a : Cod α} (ha : a.Ok) (hh : Kd.Heap a.kd) {w : World} {x : α} {cs : List Value} (hk : a.kd.K w x cs) (E : Nat → Value) : RepL E 0 w (fun k => k < w.heap.size) (a.enc x) cs := ha.enc _ _ _ _ _ _ (fun W' hW => hh.K (fun k hk' => hW k hk' hk') hk)
/-- A row, a number .. that came in. -/
theorem law_cell {α : Type} {a : Cod α} (ha : a.Ok) (hh : Kd.Heap a.kd) {w : World} {x : α} {v : Value} {y : AV} (hy : a.enc x = [y]) (hk : a.kd.K w x [v]) (E : Nat → Value) : Rep E 0 w (fun k => k < w.heap.size) y v := by
  have h := law_reps ha hh hk E
  rw [hy] at h
  obtain ⟨u, us, e, h1, _⟩ := h
  injection e with e
  rw [e]
  exact h1
end Go.Proofs.YtnlnjcgoodgmbaaM
