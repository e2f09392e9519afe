/- THE DEN MACHINE, fifteenth part: element types, put together. -/
import Derived.Test.YtnlnjcgoodgmbaaD3
set_option linter.unusedVariables false
set_option linter.unusedSectionVars false
namespace Go.Proofs.YtnlnjcgoodgmbaaM
open Go.RowKit Go.Proofs.YtnlnjcgoodgmbaaW.PrintWords
open Tys Tab Kds
/-- A type's values: cells, how they stand in memory. -/
structure Cod [Tys] (α : Type) where
  kd : Kd α
  enc : α → List AV
  dec : List AV → Option α
  z : α
  zv : List Value
  zero : List AV
  flat : Bool
  keq : α → α → Bool
namespace Cod
section
variable [Tys]
def int (k : IntKind) : Cod Int where
  kd := Kd.int k
  enc n := [.int k n]
  dec l := match l with
    | [v] => match v with
      | .int k' n => match instDecidableEqIntKind k' k with
        | .isTrue _ => some n
        | .isFalse _ => none
      | _ => none
    | _ => none
  z := 0
  zv := [.int k 0]
  zero := [.int k 0]
  flat := true
  keq := fun a b => a == b
def bool : Cod Bool where
  kd := Kd.bool
  enc b := [.bo b]
  dec l := match l with
    | [v] => match v with
      | .bo b => some b
      | .bl p d => some (@decide p d)
      | _ => none
    | _ => none
  z := false
  zv := [.bool false]
  zero := [.bo false]
  flat := true
  keq := fun _ _ => false
def str : Cod ByteArray where
  kd := Kd.string
  enc b := [.str b]
  dec l := match l with
    | [v] => match v with
      | .str b => some b
      | _ => none
    | _ => none
  z := ⟨#[]⟩
  zv := [.string ⟨#[]⟩]
  zero := [.str ⟨#[]⟩]
  flat := true
  keq := fun a b => a == b
def pair {α β : Type} (a : Cod α) (b : Cod β) : Cod (α × β) where
  kd := Kd.pair a.kd b.kd
  enc x := a.enc x.1 ++ b.enc x.2
  dec l := match a.dec (l.take a.kd.sz) with
    | some x => match b.dec (l.drop a.kd.sz) with
      | some y => some (x, y)
      | none => none
    | none => none
  z := (a.z, b.z)
  zv := a.zv ++ b.zv
  zero := a.zero ++ b.zero
  flat := a.flat && b.flat
  keq := fun _ _ => false
def iso {α β : Type} (a : Cod α) (f : β → α) (g : α → β) : Cod β where
  kd := Kd.iso a.kd f
  enc x := a.enc (f x)
  dec l := match a.dec l with
    | some x => some (g x)
    | none => none
  z := g a.z
  zv := a.zv
  zero := a.zero
  flat := a.flat
  keq := fun x y => a.keq (f x) (f y)
def list (e : Nat) (d : Kd (El e)) : Cod (List (El e)) where
  kd := Kd.slice e d
  enc xs := [.ro e xs]
  dec l := match l with
    | [v] => match v with
      | .ro t xs => match Nat.decEq t e with
        | .isTrue h => some (h ▸ xs)
        | .isFalse _ => none
      | _ => none
    | _ => none
  z := []
  zv := [.slice none 0 0]
  zero := [.ro e []]
  flat := false
  keq := fun _ _ => false
/-- Types whose values are no elements. -/
def bot {α : Type} (z : α) (zv : List Value) (zero : List AV) : Cod α where
  kd := Kd.bot 0 []
  enc _ := []
  dec _ := none
  z := z
  zv := zv
  zero := zero
  flat := true
  keq := fun _ _ => false
end
variable [Tys] [Tab] [Kds]
structure Ok {α : Type} (a : Cod α) : Prop where
  enc : ∀ (x : α) c w Im E nx, Kd.FK a.kd w Im x c → RepL E nx w Im (a.enc x) c
  dec : ∀ cs (x : α) c w Im E nx, a.dec cs = some x → RepL E nx w Im cs c → (∀ u ∈ c, u.oneCell' = true) → Kd.FK a.kd w Im x c
  flat : ∀ (x : α) c w Im, a.flat = true → Kd.FK a.kd w Im x c → Kd.FK a.kd w (fun _ => False) x c
structure Z {α : Type} (a : Cod α) : Prop where
  zero : ∀ w, Kd.FK a.kd w (fun _ => False) a.z a.zv
theorem RepL.one {E : Nat → Value} {nx : Nat} {w : World} {Im : Nat → Prop} {a : AV} {c : List Value} (h : RepL E nx w Im [a] c) : ∃ v, c = [v] ∧ Rep E nx w Im a v := by
  obtain ⟨v, vs, rfl, h1, h2⟩ := h
  obtain rfl : vs = [] := h2
  exact ⟨v, rfl, h1⟩
theorem int_ok (k : IntKind) : (int k).Ok where
  enc x c w Im E nx h := by
    obtain rfl : c = [Value.int k x] := Kd.FK_now h
    exact ⟨_, _, rfl, rfl, rfl⟩
  dec cs x c w Im E nx h hr h1 := by
    unfold int at h
    simp only at h
    split at h
    · split at h
      · split at h
        · rename_i e _
          injection h with h
          obtain ⟨v, rfl, hv⟩ := RepL.one hr
          subst h e
          obtain rfl : v = _ := hv
          exact fun W' _ => rfl
        · cases h
      · cases h
    · cases h
  flat x c w Im _ h := fun W' _ => by
    obtain rfl : c = [Value.int k x] := Kd.FK_now h
    rfl
theorem int_z (k : IntKind) : (int k).Z := ⟨fun w W' _ => rfl⟩
theorem bool_ok : bool.Ok where
  enc x c w Im E nx h := by
    obtain rfl : c = [Value.bool x] := Kd.FK_now h
    exact ⟨_, _, rfl, rfl, rfl⟩
  dec cs x c w Im E nx h hr h1 := by
    unfold bool at h
    simp only at h
    split at h
    · split at h
      · injection h with h
        obtain ⟨v, rfl, hv⟩ := RepL.one hr
        subst h
        obtain rfl : v = _ := hv
        exact fun W' _ => rfl
      · injection h with h
        obtain ⟨v, rfl, hv⟩ := RepL.one hr
        subst h
        obtain rfl : v = _ := hv
        exact fun W' _ => rfl
      · cases h
    · cases h
  flat x c w Im _ h := fun W' _ => by
    obtain rfl : c = [Value.bool x] := Kd.FK_now h
    rfl
theorem bool_z : bool.Z := ⟨fun w W' _ => rfl⟩
theorem FK_pair {α β : Type} {a : Kd α} {b : Kd β} {w : World} {Im : Nat → Prop} {x : α × β} {c : List Value} (h : Kd.FK (Kd.pair a b) w Im x c) : c = c.take a.sz ++ c.drop a.sz ∧ Kd.FK a w Im x.1 (c.take a.sz) ∧ Kd.FK b w Im x.2 (c.drop a.sz) := by
  refine ⟨(List.take_append_drop _ _).symm, fun W' hW => ?_, fun W' hW => ?_⟩
  · obtain ⟨c0, c1, rfl, h0, h1⟩ := h W' hW
    rw [← a.K_len h0, List.take_left]
    exact h0
  · obtain ⟨c0, c1, rfl, h0, h1⟩ := h W' hW
    rw [← a.K_len h0, List.drop_left]
    exact h1
theorem pair_mk {α β : Type} {a : Kd α} {b : Kd β} {w : World} {Im : Nat → Prop} {x : α × β} {c0 c1 : List Value} (h0 : Kd.FK a w Im x.1 c0) (h1 : Kd.FK b w Im x.2 c1) : Kd.FK (Kd.pair a b) w Im x (c0 ++ c1) := fun W' hW => ⟨c0, c1, rfl, h0 W' hW, h1 W' hW⟩
theorem pair_ok {α β : Type} {a : Cod α} {b : Cod β} (ha : a.Ok) (hb : b.Ok) : (pair a b).Ok where
  enc x c w Im E nx h := by
    obtain ⟨e, h0, h1⟩ := FK_pair h
    rw [e]
    exact RepL.append (ha.enc _ _ _ _ _ _ h0) (hb.enc _ _ _ _ _ _ h1)
  dec cs x c w Im E nx h hr h1 := by
    unfold pair at h
    simp only at h
    split at h
    · rename_i x0 hx
      split at h
      · rename_i y hy
        injection h with h
        subst h
        have e : c = c.take a.kd.sz ++ c.drop a.kd.sz := (List.take_append_drop _ _).symm
        rw [e]
        exact pair_mk (ha.dec _ _ _ _ _ _ _ hx (RepL.take _ hr) (fun u hu => h1 u (List.mem_of_mem_take hu))) (hb.dec _ _ _ _ _ _ _ hy (RepL.drop _ hr) (fun u hu => h1 u (List.mem_of_mem_drop hu)))
      · cases h
    · cases h
  flat x c w Im f h := by
    have f : (a.flat && b.flat) = true := f
    rw [Bool.and_eq_true] at f
    obtain ⟨e, h0, h1⟩ := FK_pair h
    rw [e]
    exact pair_mk (ha.flat _ _ _ _ f.1 h0) (hb.flat _ _ _ _ f.2 h1)
theorem pair_z {α β : Type} {a : Cod α} {b : Cod β} (ha : a.Z) (hb : b.Z) : (pair a b).Z := ⟨fun w => pair_mk (ha.zero w) (hb.zero w)⟩
theorem iso_ok {α β : Type} {a : Cod α} {f : β → α} {g : α → β} (ha : a.Ok) (hg : ∀ x, f (g x) = x) : (iso a f g).Ok where
  enc x c w Im E nx h := ha.enc (f x) c w Im E nx h
  dec cs x c w Im E nx h hr h1 := by
    unfold iso at h
    simp only at h
    split at h
    · rename_i x0 hx
      injection h with h
      subst h
      show Kd.FK a.kd w Im (f (g x0)) c
      rw [hg]
      exact ha.dec _ _ _ _ _ _ _ hx hr h1
    · cases h
  flat x c w Im hf h := ha.flat (f x) c w Im hf h
theorem iso_z {α β : Type} {a : Cod α} {f : β → α} {g : α → β} (ha : a.Z) (hg : ∀ x, f (g x) = x) : (iso a f g).Z := ⟨fun w => by
  show Kd.FK a.kd w _ (f (g a.z)) a.zv
  rw [hg]
  exact ha.zero w⟩
theorem list_ok (e : Nat) : (list e (Kds.kd e)).Ok where
  enc x c w Im E nx h := by
    obtain ⟨A, cc, rfl, hl, hF⟩ := Kd.FK_slice_open h
    exact ⟨_, _, rfl, ⟨A, cc, rfl, hl, hF⟩, rfl⟩
  dec cs x c w Im E nx h hr h1 := by
    unfold list at h
    simp only at h
    split at h
    · split at h
      · split at h
        · rename_i e _
          subst e
          injection h with h
          obtain ⟨v, rfl, A, cc, rfl, hl, hF⟩ := RepL.one hr
          subst h
          exact Kd.FK_slice_mk hl hF
        · cases h
      · cases h
    · cases h
  flat x c w Im hf h := by cases hf
theorem list_z (e : Nat) (d : Kd (El e)) : (list e d).Z := ⟨fun w => Kd.FK_slice_mk (Nat.le_refl 0) (Kd.F_nil d w _)⟩
theorem bot_ok {α : Type} (z : α) (zv : List Value) (zero : List AV) : (bot z zv zero).Ok where
  enc x c w Im E nx h := (show False from Kd.FK_now h).elim
  dec cs x c w Im E nx h hr h1 := by cases h
  flat x c w Im hf h := (show False from Kd.FK_now h).elim
end Cod
end Go.Proofs.YtnlnjcgoodgmbaaM
