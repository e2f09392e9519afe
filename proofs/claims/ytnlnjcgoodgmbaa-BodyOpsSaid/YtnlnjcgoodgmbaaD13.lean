/- THE DEN MACHINE, thirteenth part: shapes of values and objects; what a printed function tells of itself. -/
import Derived.Test.YtnlnjcgoodgmbaaD1
set_option linter.unusedVariables false
set_option linter.unusedSectionVars false
namespace Go.Proofs.YtnlnjcgoodgmbaaM
open Tys Tab
variable [Tys] [Tab]
inductive Sh where
  | int (k : IntKind) | bo | str | nili | nils | nilp
  | agg (l : List Sh) | tup (l : List Sh) | ro (t : Nat) | own (i : Nat) | ptr (i off : Nat)
  | fn (f : Nat) (l : List Sh) | rop (l : List Sh) | ifc (t : Nat) (s : Sh) | lost
  | bm (f : Nat) (l : List Sh) | vro (t : Nat) (l : List Sh) | mp (i : Nat) | elp (i t off : Nat) | nilf | nilm
mutual
/-- What is left open by a shape. -/
def Sh.Ty : Sh → Type
  | .int _ => Int
  | .bo => Bool
  | .str => ByteArray
  | .agg l => TyL l
  | .tup l => TyL l
  | .fn _ l => TyL l
  | .bm _ l => TyL l
  | .vro _ l => TyL l
  | .mp _ => Unit
  | .elp _ _ _ => Nat
  | .nilf => Unit
  | .nilm => Unit
  | .rop l => TyL l
  | .ifc _ s => Sh.Ty s
  | .ro t => List (El t)
  | .nili => Unit
  | .nils => Unit
  | .nilp => Unit
  | .own _ => Unit
  | .ptr _ _ => Unit
  | .lost => Unit
def TyL : List Sh → Type
  | [] => Unit
  | a :: l => Sh.Ty a × TyL l
end
mutual
def Sh.enc : (s : Sh) → s.Ty → AV
  | .int k, n => .int k n
  | .bo, b => .bo b
  | .str, b => .str b
  | .agg l, t => .agg (encL l t)
  | .tup l, t => .tup (encL l t)
  | .fn f l, t => .fn f (encL l t)
  | .bm f l, t => .bm f (encL l t)
  | .vro f l, t => .vro f (encL l t)
  | .mp i, _ => .mp i
  | .elp i t off, j => .elp i t j off
  | .nilf, _ => .nilf
  | .nilm, _ => .nilm
  | .rop l, t => .rop (encL l t)
  | .ifc b s, t => .ifc b (Sh.enc s t)
  | .ro t, xs => .ro t xs
  | .nili, _ => .nili
  | .nils, _ => .nils
  | .nilp, _ => .nilp
  | .own i, _ => .own i
  | .ptr i off, _ => .ptr i off
  | .lost, _ => .lost
def encL : (l : List Sh) → TyL l → List AV
  | [], _ => []
  | a :: l, t => Sh.enc a t.1 :: encL l t.2
end
def castT (t t' : Nat) (xs : List (El t)) : Option (List (El t')) := match Nat.decEq t t' with
  | .isTrue h => some (h ▸ xs)
  | .isFalse _ => none
def okIf (b : Bool) : Option Unit := match b with
  | true => some ()
  | false => none
mutual
def Sh.dec : (s : Sh) → AV → Option s.Ty
  | .int k, v => match v with
    | .int k' n => match instDecidableEqIntKind k' k with
      | .isTrue _ => some n
      | .isFalse _ => none
    | _ => none
  | .bo, v => match v with
    | .bo b => some b
    | _ => none
  | .str, v => match v with
    | .str b => some b
    | _ => none
  | .agg l, v => match v with
    | .agg vs => decL l vs
    | _ => none
  | .tup l, v => match v with
    | .tup vs => decL l vs
    | _ => none
  | .fn f l, v => match v with
    | .fn g vs => match Nat.beq g f with
      | true => decL l vs
      | false => none
    | _ => none
  | .rop l, v => match v with
    | .rop vs => decL l vs
    | _ => none
  | .bm f l, v => match v with
    | .bm g vs => match Nat.beq g f with
      | true => decL l vs
      | false => none
    | _ => none
  | .vro f l, v => match v with
    | .vro g vs => match Nat.beq g f with
      | true => decL l vs
      | false => none
    | _ => none
  | .mp i, v => match v with
    | .mp j => okIf (Nat.beq j i)
    | _ => none
  | .elp i t off, v => match v with
    | .elp i' t' j off' => match Nat.beq i' i && Nat.beq t' t && Nat.beq off' off with
      | true => some j
      | false => none
    | _ => none
  | .nilf, v => match v with
    | .nilf => some ()
    | _ => none
  | .nilm, v => match v with
    | .nilm => some ()
    | _ => none
  | .ifc b s, v => match v with
    | .ifc t v => match Nat.beq t b with
      | true => Sh.dec s v
      | false => none
    | _ => none
  | .ro t, v => match v with
    | .ro t' xs => castT t' t xs
    | _ => none
  | .nili, v => match v with
    | .nili => some ()
    | _ => none
  | .nils, v => match v with
    | .nils => some ()
    | _ => none
  | .nilp, v => match v with
    | .nilp => some ()
    | _ => none
  | .own i, v => match v with
    | .own j => okIf (Nat.beq j i)
    | _ => none
  | .ptr i off, v => match v with
    | .ptr j o => okIf (Nat.beq j i && Nat.beq o off)
    | _ => none
  | .lost, v => match v with
    | .lost => some ()
    | _ => none
def decL : (l : List Sh) → List AV → Option (TyL l)
  | [], vs => match vs with
    | [] => some ()
    | _ :: _ => none
  | a :: l, vs => match vs with
    | [] => none
    | v :: vs => match Sh.dec a v with
      | some x => match decL l vs with
        | some y => some (x, y)
        | none => none
      | none => none
end
theorem okIf_some {b : Bool} {u : Unit} (h : okIf b = some u) : b = true := by
  cases b
  · cases h
  · rfl
theorem castT_some {t t' : Nat} {xs : List (El t)} {ys : List (El t')} (h : castT t t' xs = some ys) : AV.ro t xs = .ro t' ys := by
  unfold castT at h
  split at h
  · rename_i e _
    subst e
    injection h with h
    rw [← h]
  · cases h
mutual
theorem dec_enc : ∀ (s : Sh) (v : AV) (t : s.Ty), s.dec v = some t → v = s.enc t
  | .int k, v, t, h => by
    cases v with
    | int k' n =>
      replace h : (match instDecidableEqIntKind k' k with | .isTrue _ => some n | .isFalse _ => none) = some t := h
      split at h
      · rename_i e _
        injection h with h
        rw [e, h]; rfl
      · cases h
    | _ => cases (show none = some t from h)
  | .bo, v, t, h => by
    cases v with
    | bo b => exact congrArg AV.bo (Option.some.inj h)
    | _ => cases (show none = some t from h)
  | .str, v, t, h => by
    cases v with
    | str b => exact congrArg AV.str (Option.some.inj h)
    | _ => cases (show none = some t from h)
  | .agg l, v, t, h => by
    cases v with
    | agg vs => exact congrArg AV.agg (decL_enc l vs t h)
    | _ => cases (show none = some t from h)
  | .tup l, v, t, h => by
    cases v with
    | tup vs => exact congrArg AV.tup (decL_enc l vs t h)
    | _ => cases (show none = some t from h)
  | .rop l, v, t, h => by
    cases v with
    | rop vs => exact congrArg AV.rop (decL_enc l vs t h)
    | _ => cases (show none = some t from h)
  | .ifc b s, v, t, h => by
    cases v with
    | ifc b' v' =>
      replace h : (match Nat.beq b' b with | true => Sh.dec s v' | false => none) = some t := h
      split at h
      · rename_i hb
        rw [Nat.eq_of_beq_eq_true hb]
        exact congrArg (AV.ifc b) (dec_enc s v' t h)
      · cases h
    | _ => cases (show none = some t from h)
  | .fn f l, v, t, h => by
    cases v with
    | fn g vs =>
      replace h : (match Nat.beq g f with | true => decL l vs | false => none) = some t := h
      split at h
      · rename_i hb
        rw [Nat.eq_of_beq_eq_true hb]
        exact congrArg (AV.fn f) (decL_enc l vs t h)
      · cases h
    | _ => cases (show none = some t from h)
  | .bm f l, v, t, h => by
    cases v with
    | bm g vs =>
      replace h : (match Nat.beq g f with | true => decL l vs | false => none) = some t := h
      split at h
      · rename_i hb
        rw [Nat.eq_of_beq_eq_true hb]
        exact congrArg (AV.bm f) (decL_enc l vs t h)
      · cases h
    | _ => cases (show none = some t from h)
  | .vro f l, v, t, h => by
    cases v with
    | vro g vs =>
      replace h : (match Nat.beq g f with | true => decL l vs | false => none) = some t := h
      split at h
      · rename_i hb
        rw [Nat.eq_of_beq_eq_true hb]
        exact congrArg (AV.vro f) (decL_enc l vs t h)
      · cases h
    | _ => cases (show none = some t from h)
  | .mp i, v, t, h => by
    cases v with
    | mp j => rw [Nat.eq_of_beq_eq_true (okIf_some (show okIf (Nat.beq j i) = some t from h))]; rfl
    | _ => cases (show none = some t from h)
  | .elp i b off, v, t, h => by
    cases v with
    | elp i' b' j off' =>
      replace h : (match Nat.beq i' i && Nat.beq b' b && Nat.beq off' off with | true => some j | false => none) = some t := h
      split at h
      · rename_i hb
        rw [Bool.and_eq_true, Bool.and_eq_true] at hb
        rw [Nat.eq_of_beq_eq_true hb.1.1, Nat.eq_of_beq_eq_true hb.1.2, Nat.eq_of_beq_eq_true hb.2]
        injection h with h
        rw [h]
        rfl
      · cases h
    | _ => cases (show none = some t from h)
  | .nilf, v, t, h => by
    cases v with
    | nilf => rfl
    | _ => cases (show none = some t from h)
  | .nilm, v, t, h => by
    cases v with
    | nilm => rfl
    | _ => cases (show none = some t from h)
  | .ro t', v, t, h => by
    cases v with
    | ro t2 xs => exact castT_some (show castT t2 t' xs = some t from h)
    | _ => cases (show none = some t from h)
  | .nili, v, t, h => by
    cases v with
    | nili => rfl
    | _ => cases (show none = some t from h)
  | .nils, v, t, h => by
    cases v with
    | nils => rfl
    | _ => cases (show none = some t from h)
  | .nilp, v, t, h => by
    cases v with
    | nilp => rfl
    | _ => cases (show none = some t from h)
  | .lost, v, t, h => by
    cases v with
    | lost => rfl
    | _ => cases (show none = some t from h)
  | .own i, v, t, h => by
    cases v with
    | own j => rw [Nat.eq_of_beq_eq_true (okIf_some (show okIf (Nat.beq j i) = some t from h))]; rfl
    | _ => cases (show none = some t from h)
  | .ptr i off, v, t, h => by
    cases v with
    | ptr j o => have := okIf_some (show okIf (Nat.beq j i && Nat.beq o off) = some t from h); rw [Bool.and_eq_true] at this; rw [Nat.eq_of_beq_eq_true this.1, Nat.eq_of_beq_eq_true this.2]; rfl
    | _ => cases (show none = some t from h)
theorem decL_enc : ∀ (l : List Sh) (vs : List AV) (t : TyL l), decL l vs = some t → vs = encL l t
  | [], vs, t, h => by
    unfold decL at h
    split at h
    · rfl
    · cases h
  | a :: l, vs, t, h => by
    unfold decL at h
    split at h
    · cases h
    · split at h
      · rename_i x hx
        split at h
        · rename_i y hy
          injection h with h
          rw [← h]
          show _ :: _ = Sh.enc a x :: encL l y
          rw [← dec_enc a _ x hx, ← decL_enc l _ y hy]
        · cases h
      · cases h
end
inductive OSh where
  | box (t : Nat) (l : List Sh) | row (t : Nat) | fro (t : Nat) | arr (t e : Nat) | map (t k e : Nat) | dead
def OSh.Ty : OSh → Type
  | .box _ l => TyL l
  | .row t => List (El t)
  | .fro t => List (El t)
  | .arr _ e => List (El e)
  | .map _ k e => List (El k × El e)
  | .dead => Unit
def OSh.enc : (o : OSh) → o.Ty → Ob
  | .box t l, x => .box t (encL l x)
  | .row t, xs => .row t xs
  | .fro t, xs => .fro t xs
  | .arr t e, xs => .arr t e xs
  | .map t k e, xs => .map t k e xs
  | .dead, _ => .dead
def castM (k k' e e' : Nat) (xs : List (El k × El e)) : Option (List (El k' × El e')) := match Nat.decEq k k' with
  | .isTrue h => match Nat.decEq e e' with
    | .isTrue h' => some (h ▸ h' ▸ xs)
    | .isFalse _ => none
  | .isFalse _ => none
def OSh.dec : (o : OSh) → Ob → Option o.Ty
  | .box t l, v => match v with
    | .box t' vs => match Nat.beq t' t with
      | true => decL l vs
      | false => none
    | _ => none
  | .row t, v => match v with
    | .row t' xs => castT t' t xs
    | _ => none
  | .fro t, v => match v with
    | .fro t' xs => castT t' t xs
    | _ => none
  | .arr t e, v => match v with
    | .arr t' e' xs => match Nat.beq t' t with
      | true => castT e' e xs
      | false => none
    | _ => none
  | .map t k e, v => match v with
    | .map t' k' e' xs => match Nat.beq t' t with
      | true => castM k' k e' e xs
      | false => none
    | _ => none
  | .dead, v => match v with
    | .dead => some ()
    | _ => none
theorem castT_row {t t' : Nat} {xs : List (El t)} {ys : List (El t')} (h : castT t t' xs = some ys) : Ob.row t xs = .row t' ys ∧ Ob.fro t xs = .fro t' ys ∧ ∀ b, Ob.arr b t xs = .arr b t' ys := by
  unfold castT at h
  split at h
  · rename_i e _
    subst e
    injection h with h
    rw [← h]
    exact ⟨rfl, rfl, fun _ => rfl⟩
  · cases h
theorem castM_some {k k' e e' : Nat} {xs : List (El k × El e)} {ys : List (El k' × El e')} (h : castM k k' e e' xs = some ys) (b : Nat) : Ob.map b k e xs = .map b k' e' ys := by
  unfold castM at h
  split at h
  · rename_i h1 _
    split at h
    · rename_i h2 _
      subst h1 h2
      injection h with h
      rw [← h]
    · cases h
  · cases h
theorem odec_enc : ∀ (s : OSh) (v : Ob) (t : s.Ty), s.dec v = some t → v = s.enc t
  | .box b l, v, t, h => by
    cases v with
    | box t' vs =>
      replace h : (match Nat.beq t' b with | true => decL l vs | false => none) = some t := h
      split at h
      · rename_i hb
        rw [Nat.eq_of_beq_eq_true hb]
        exact congrArg (Ob.box b) (decL_enc l vs t h)
      · cases h
    | _ => cases (show none = some t from h)
  | .row t', v, t, h => by
    cases v with
    | row t2 xs => exact (castT_row (show castT t2 t' xs = some t from h)).1
    | _ => cases (show none = some t from h)
  | .fro t', v, t, h => by
    cases v with
    | fro t2 xs => exact (castT_row (show castT t2 t' xs = some t from h)).2.1
    | _ => cases (show none = some t from h)
  | .arr b e, v, t, h => by
    cases v with
    | arr t' e' xs =>
      replace h : (match Nat.beq t' b with | true => castT e' e xs | false => none) = some t := h
      split at h
      · rename_i hb
        rw [Nat.eq_of_beq_eq_true hb]
        exact (castT_row h).2.2 b
      · cases h
    | _ => cases (show none = some t from h)
  | .map b k e, v, t, h => by
    cases v with
    | map t' k' e' xs =>
      replace h : (match Nat.beq t' b with | true => castM k' k e' e xs | false => none) = some t := h
      split at h
      · rename_i hb
        rw [Nat.eq_of_beq_eq_true hb]
        exact castM_some h b
      · cases h
    | _ => cases (show none = some t from h)
  | .dead, v, t, h => by
    cases v with
    | dead => rfl
    | _ => cases (show none = some t from h)
def TyO : List OSh → Type
  | [] => Unit
  | a :: l => OSh.Ty a × TyO l
def encO : (l : List OSh) → TyO l → List Ob
  | [], _ => []
  | a :: l, t => OSh.enc a t.1 :: encO l t.2
def decO : (l : List OSh) → List Ob → Option (TyO l)
  | [], vs => match vs with
    | [] => some ()
    | _ :: _ => none
  | a :: l, vs => match vs with
    | [] => none
    | v :: vs => match OSh.dec a v with
      | some x => match decO l vs with
        | some y => some (x, y)
        | none => none
      | none => none
theorem decO_enc : ∀ (l : List OSh) (vs : List Ob) (t : TyO l), decO l vs = some t → vs = encO l t
  | [], vs, t, h => by
    unfold decO at h
    split at h
    · rfl
    · cases h
  | a :: l, vs, t, h => by
    unfold decO at h
    split at h
    · cases h
    · split at h
      · rename_i x hx
        split at h
        · rename_i y hy
          injection h with h
          rw [← h]
          show _ :: _ = OSh.enc a x :: encO l y
          rw [← odec_enc a _ x hx, ← decO_enc l _ y hy]
        · cases h
      · cases h
theorem encO_len : ∀ (l : List OSh) (t : TyO l), (encO l t).length = l.length
  | [], t => rfl
  | a :: l, t => by
    unfold encO
    rw [List.length_cons, List.length_cons, encO_len l t.2]
theorem encL_len : ∀ (l : List Sh) (t : TyL l), (encL l t).length = l.length
  | [], t => rfl
  | a :: l, t => by
    unfold encL
    rw [List.length_cons, List.length_cons, encL_len l t.2]
/-- Values and objects by their shapes. -/
def decA (sh : List Sh) (osh : List OSh) (vs : List AV) (obs : List Ob) : Option (TyL sh × TyO osh) := match decL sh vs with
  | some t => match decO osh obs with
    | some u => some (t, u)
    | none => none
  | none => none
theorem decA_some {sh : List Sh} {osh : List OSh} {vs : List AV} {obs : List Ob} {t : TyL sh × TyO osh} (h : decA sh osh vs obs = some t) : vs = encL sh t.1 ∧ obs = encO osh t.2 := by
  unfold decA at h
  split at h
  · rename_i x hx
    split at h
    · rename_i y hy
      injection h with h
      rw [← h]
      exact ⟨decL_enc sh vs x hx, decO_enc osh obs y hy⟩
    · cases h
  · cases h
/-- A place where a run stops, with what it leaves. -/
structure Stp (S : Type) where
  id : Nat
  L : List Nat
  sh : List Sh
  osh : List OSh
  to : TyL sh → TyO osh → S
section
variable {S R ρ : Type}
def liveS : List (Stp S) → Nat → Option (List Nat)
  | [], _ => none
  | p :: l, i => match Nat.beq i p.id with
    | true => some p.L
    | false => liveS l i
def stpJ (go : S → Option R) : List (Stp S) → Nat → List AV → List Ob → Option R
  | [], _, _, _ => none
  | p :: l, i, vs, obs => match Nat.beq i p.id with
    | true => match decA p.sh p.osh vs obs with
      | some t => go (p.to t.1 t.2)
      | none => stpJ go l i vs obs
    | false => stpJ go l i vs obs
theorem stpJ_some {go : S → Option R} {r : R} : ∀ {l : List (Stp S)} {i : Nat} {vs : List AV} {obs : List Ob}, stpJ go l i vs obs = some r → ∃ p ∈ l, p.id = i ∧ ∃ t : TyL p.sh × TyO p.osh, vs = encL p.sh t.1 ∧ obs = encO p.osh t.2 ∧ go (p.to t.1 t.2) = some r
  | [], i, vs, obs, h => by cases h
  | p :: l, i, vs, obs, h => by
    unfold stpJ at h
    split at h
    · rename_i hb
      split at h
      · rename_i t ht
        exact ⟨p, List.mem_cons_self, (Nat.eq_of_beq_eq_true hb).symm, t, (decA_some ht).1, (decA_some ht).2, h⟩
      · obtain ⟨q, h1, h2⟩ := stpJ_some h
        exact ⟨q, List.mem_cons_of_mem _ h1, h2⟩
    · obtain ⟨q, h1, h2⟩ := stpJ_some h
      exact ⟨q, List.mem_cons_of_mem _ h1, h2⟩
/-- A result by its shape. -/
def decR (s : Sh) (osh : List OSh) (F : s.Ty → TyO osh → R) (v : AV) (obs : List Ob) : Option R := match s.dec v with
  | some t => match decO osh obs with
    | some u => some (F t u)
    | none => none
  | none => none
theorem decR_some {s : Sh} {osh : List OSh} {F : s.Ty → TyO osh → R} {v : AV} {obs : List Ob} {r : R} (h : decR s osh F v obs = some r) : ∃ t u, v = s.enc t ∧ obs = encO osh u ∧ F t u = r := by
  unfold decR at h
  split at h
  · rename_i x hx
    split at h
    · rename_i y hy
      injection h with h
      exact ⟨x, y, dec_enc s v x hx, decO_enc osh obs y hy, h⟩
    · cases h
  · cases h
/-- Results by more than one shape. -/
structure Ret (R : Type) where
  s : Sh
  osh : List OSh
  F : s.Ty → TyO osh → R
def retD : List (Ret R) → AV → List Ob → Option R
  | [], _, _ => none
  | p :: l, v, obs => match decR p.s p.osh p.F v obs with
    | some r => some r
    | none => retD l v obs
theorem retD_some {r : R} : ∀ {l : List (Ret R)} {v : AV} {obs : List Ob}, retD l v obs = some r → ∃ p ∈ l, ∃ t u, v = p.s.enc t ∧ obs = encO p.osh u ∧ p.F t u = r
  | [], v, obs, h => by cases h
  | p :: l, v, obs, h => by
    unfold retD at h
    split at h
    · rename_i x hx
      injection h with h
      exact ⟨p, List.mem_cons_self, decR_some (hx.trans (congrArg some h))⟩
    · obtain ⟨q, h1, h2⟩ := retD_some h
      exact ⟨q, List.mem_cons_of_mem _ h1, h2⟩
/-- A printed function's answers, for its callers. -/
def cpsOf (ash : List Sh) (aosh : List OSh) (F : TyL ash → TyO aosh → Option R) (onR : (ρ : Type) → R → (AV → List Ob → Option ρ) → Option ρ) : Cps := fun ρ args obs Kf => match decA ash aosh args obs with
  | some t => (F t.1 t.2).bind fun r => onR ρ r Kf
  | none => none
end
end Go.Proofs.YtnlnjcgoodgmbaaM
