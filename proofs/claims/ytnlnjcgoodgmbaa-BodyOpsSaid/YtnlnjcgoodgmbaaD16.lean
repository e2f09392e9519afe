/- THE DEN MACHINE, sixteenth part: a program's types, told by lists. -/
import Derived.Test.YtnlnjcgoodgmbaaD15
import Derived.Test.YtnlnjcgoodgmbaaD14
import Derived.MapKept
set_option linter.unusedVariables false
set_option linter.unusedSectionVars false
namespace Go.Proofs.YtnlnjcgoodgmbaaM
open Go.RowKit Go.Proofs.YtnlnjcgoodgmbaaW.PrintWords
open Tys Tab Kds
def tdOf (l : List (Nat × TD)) (t : Nat) : TD := match get l t with
  | some d => d
  | none => .other
def zOf [Tys] (l : List (Nat × List AV)) (t : Nat) : List AV := match get l t with
  | some d => d
  | none => []
def limOf (l : List (Nat × Nat)) (t : Nat) : Nat := match get l t with
  | some d => d
  | none => 0
/-- Element types by a list. -/
def codOf [Tys] : List ((t : Nat) × Cod (El t)) → (t : Nat) → Cod (El t)
  | [], t => Cod.bot (z t) [] []
  | p :: l, t => match Nat.decEq p.1 t with
    | .isTrue h => h ▸ p.2
    | .isFalse _ => codOf l t
variable [Tys] [Tab] [Kds]
theorem get_mem {α : Type} : ∀ {l : List (Nat × α)} {i : Nat} {x : α}, get l i = some x → (i, x) ∈ l
  | [], i, x, h => by cases h
  | (j, y) :: l, i, x, h => by
    rw [get_cons] at h
    split at h
    · rename_i e
      injection h with h
      rw [e, h]
      exact List.mem_cons_self
    · exact List.mem_cons_of_mem _ (get_mem h)
theorem tdOf_mem {l : List (Nat × TD)} {t : Nat} {d : TD} (h : tdOf l t = d) (hd : d ≠ .other) : (t, d) ∈ l := by
  unfold tdOf at h
  split at h
  · rename_i x hx
    rw [← h]
    exact get_mem hx
  · exact absurd h.symm hd
theorem zOf_mem {l : List (Nat × List AV)} {t : Nat} (h : zOf l t ≠ []) : ∃ z, (t, z) ∈ l := by
  unfold zOf at h
  split at h
  · rename_i x hx
    exact ⟨x, get_mem hx⟩
  · exact absurd rfl h
theorem codOf_ok {l : List ((t : Nat) × Cod (El t))} (h : ∀ p ∈ l, p.2.Ok) (t : Nat) : (codOf l t).Ok := by
  induction l with
  | nil => exact Cod.bot_ok _ _ _
  | cons p l ih =>
    unfold codOf
    split
    · rename_i e _
      subst e
      exact h p List.mem_cons_self
    · exact ih (fun q hq => h q (List.mem_cons_of_mem _ hq))
section
variable {P : Program}
def aggD : TypeDesc → Bool
  | .struct _ | .array _ _ => true
  | _ => false
def descB (P : Program) (t : Nat) (b : Bool) : Bool := match P.underlying t with
  | some d => aggD d == b
  | none => false
theorem descB_ok {t : Nat} {b : Bool} (h : descB P t b = true) : ∃ d, P.underlying t = some d ∧ (match d with | .struct _ | .array _ _ => true | _ => false) = b := by
  unfold descB at h
  split at h
  · rename_i d hd
    refine ⟨d, hd, ?_⟩
    have : aggD d = b := by simpa using h
    rw [← this]
    rfl
  · cases h
theorem tok_mk {t : Nat} (zv : Value) (b : Nat) (hi : (P.info? t).map (fun i => (i.zero, i.size, i.bytes)) = some (some zv, szOf t, b)) (h1 : (zv.cells.size == szOf t && Nat.blt 0 b && Nat.ble (lim t * b) 140737488355328) = true) (h2 : zv.cells.toList.map some = (zero t).map zcell) (h3 : aggT t = false ∨ ∃ c, zv = .agg c) (h4 : descB P t (aggT t) = true) : TOk P t := by
  rw [Bool.and_eq_true, Bool.and_eq_true] at h1
  refine ⟨⟨zv, b, hi, by simpa using h1.1.1, by simpa [Nat.blt_eq] using h1.1.2, by simpa [Nat.ble_eq] using h1.2, h2, fun h => ?_⟩, descB_ok h4⟩
  rcases h3 with h3 | h3
  · rw [h3] at h; cases h
  · exact h3
def fieldB (P : Program) (f : Field) (x : Nat × Nat × Bool) : Bool := Nat.beq f.offset x.1 && (match P.info? f.type with | some i => Nat.beq i.size x.2.1 | none => false) && Nat.blt 0 x.2.1 && descB P f.type x.2.2
def fieldsB (P : Program) : List Field → List (Nat × Nat × Bool) → Bool
  | [], [] => true
  | f :: fs, x :: l => fieldB P f x && fieldsB P fs l
  | _, _ => false
def structB (P : Program) (t : Nat) (l : List (Nat × Nat × Bool)) : Bool := match P.underlying t with
  | some (.struct fs) => fieldsB P fs.toList l
  | _ => false
theorem structB_some {t : Nat} {l : List (Nat × Nat × Bool)} (h : structB P t l = true) : ∃ fs : Array Field, P.underlying t = some (.struct fs) ∧ fieldsB P fs.toList l = true := by
  unfold structB at h
  split at h
  · rename_i fs hfs
    exact ⟨fs, hfs, h⟩
  · cases h
theorem fieldsB_get : ∀ {fs : List Field} {l : List (Nat × Nat × Bool)} {i : Nat} {x : Nat × Nat × Bool}, fieldsB P fs l = true → l[i]? = some x → ∃ f, fs[i]? = some f ∧ fieldB P f x = true
  | [], [], i, x, h, hi => by simp at hi
  | [], _ :: _, i, x, h, hi => by cases h
  | f :: fs, [], i, x, h, hi => by simp at hi
  | f :: fs, y :: l, 0, x, h, hi => by
    unfold fieldsB at h
    rw [Bool.and_eq_true] at h
    rw [List.getElem?_cons_zero] at hi
    injection hi with hi
    subst hi
    exact ⟨f, rfl, h.1⟩
  | f :: fs, y :: l, i + 1, x, h, hi => by
    unfold fieldsB at h
    rw [Bool.and_eq_true] at h
    rw [List.getElem?_cons_succ] at hi
    obtain ⟨g, h1, h2⟩ := fieldsB_get h.2 hi
    exact ⟨g, by rw [List.getElem?_cons_succ]; exact h1, h2⟩
theorem fieldB_size {f : Field} {x : Nat × Nat × Bool} (h : fieldB P f x = true) : f.offset = x.1 ∧ (P.info? f.type).map (·.size) = some x.2.1 ∧ 0 < x.2.1 ∧ descB P f.type x.2.2 = true := by
  unfold fieldB at h
  rw [Bool.and_eq_true, Bool.and_eq_true, Bool.and_eq_true] at h
  obtain ⟨⟨⟨h1, h2⟩, h3⟩, h4⟩ := h
  refine ⟨Nat.eq_of_beq_eq_true h1, ?_, by simpa [Nat.blt_eq] using h3, h4⟩
  split at h2
  · rename_i i hi
    rw [hi]
    simp only [Option.map_some]
    rw [Nat.eq_of_beq_eq_true h2]
  · cases h2
theorem run_sizeOf {t n : Nat} (h : (P.info? t).map (·.size) = some n) (w : World) : (sizeOf t).run P w = .ok n w := by
  obtain ⟨i, hi, e⟩ := Option.map_eq_some_iff.1 h
  unfold sizeOf typeInfo
  simp [hi, e]
theorem fieldPlace_ok {f : Field} {n : Nat} (h : (P.info? f.type).map (·.size) = some n) (hn : 0 < n) (a : Addr) (w : World) : (fieldPlace a f).run P w = .ok (a.add f.offset) w := by
  unfold fieldPlace
  rw [Sem.run_bind, run_sizeOf h, Result.andThen_ok, if_neg (by omega)]
  rfl
theorem struct_ok {t : Nat} {l : List (Nat × Nat × Bool)} (h : structB P t l = true) {i off n : Nat} {b : Bool} (hi : l[i]? = some (off, n, b)) : ∃ fs f, P.underlying t = some (.struct fs) ∧ fs[i]? = some f ∧ f.offset = off ∧ (∃ d, P.underlying f.type = some d ∧ (match d with | .struct _ | .array _ _ => true | _ => false) = b) ∧ (P.info? f.type).map (·.size) = some n ∧ (∀ a w, (fieldPlace a f).run P w = .ok (a.add off) w) := by
  obtain ⟨fs, h1, h2⟩ := structB_some h
  obtain ⟨f, h3, h4⟩ := fieldsB_get h2 hi
  obtain ⟨h5, h6, h7, h8⟩ := fieldB_size h4
  exact ⟨fs, f, h1, by simpa using h3, h5, descB_ok h8, h6, fun a w => by rw [fieldPlace_ok h6 h7, h5]⟩
theorem fieldsB_run (w : World) : ∀ {fs : List Field} {l : List (Nat × Nat × Bool)}, fieldsB P fs l = true → (fs.mapM fun f => (do pure (f.offset, ← sizeOf f.type) : Sem (Nat × Nat))).run P w = .ok (l.map fun x => (x.1, x.2.1)) w
  | [], [], h => rfl
  | [], _ :: _, h => by cases h
  | f :: fs, [], h => by cases h
  | f :: fs, x :: l, h => by
    unfold fieldsB at h
    rw [Bool.and_eq_true] at h
    obtain ⟨h5, h6, h7, h8⟩ := fieldB_size h.1
    have ih := fieldsB_run w h.2
    rw [List.mapM_cons, Sem.run_bind, Sem.run_bind, run_sizeOf h6]
    simp only [Result.andThen_ok, Sem.run_pure, Sem.run_bind, ih, List.map_cons, h5]
theorem build_ok {t : Nat} {l : List (Nat × Nat × Bool)} (h : structB P t l = true) : ∃ fs : Array Field, P.underlying t = some (.struct fs) ∧ ∀ w, (fs.mapM fun f => (do pure (f.offset, ← sizeOf f.type) : Sem (Nat × Nat))).run P w = .ok (l.map fun x => (x.1, x.2.1)).toArray w := by
  obtain ⟨fs, h1, h2⟩ := structB_some h
  refine ⟨fs, h1, fun w => ?_⟩
  rw [← Array.toArray_toList (xs := fs), List.mapM_toArray, Sem.run_map, fieldsB_run w h2]
  rfl
/-- A type whose values are a map's keys. -/
def KeyOk (P : Program) (k : Nat) : Prop := ∃ d, P.underlying k = some d ∧ ∀ (x : El k) (u : Value) E nx w Im, RepL E nx w Im (Tab.enc k x) [u] → Go.MapKept.IsKey d u ∧ ∀ (y : El k) (v : Value) E nx w Im, RepL E nx w Im (Tab.enc k y) [v] → (keq k x y = true ↔ u = v)
theorem key_int {k : Nat} {kk : IntKind} (f : El k → Int) (hd : P.underlying k = some (.int kk)) (he : ∀ x, Tab.enc k x = [.int kk (f x)]) (hq : ∀ x y, keq k x y = (f x == f y)) : KeyOk P k := by
  refine ⟨_, hd, fun x u E nx w Im h => ?_⟩
  rw [he] at h
  obtain ⟨v, vs, e, h1, _⟩ := h
  injection e with e
  subst e
  obtain rfl : u = .int kk (f x) := h1
  refine ⟨rfl, fun y v E nx w Im h => ?_⟩
  rw [he] at h
  obtain ⟨v', vs, e, h1, _⟩ := h
  injection e with e
  subst e
  obtain rfl : v = .int kk (f y) := h1
  rw [hq, beq_iff_eq]
  exact ⟨fun e => by rw [e], fun e => by injection e⟩
/-- One type that is told. -/
structure Told (P : Program) (p : Nat × TD) : Prop where
  slice : ∀ e, p.2 = .slice e → P.underlying p.1 = some (.slice e) ∧ zero e ≠ [] ∧ (kd e).sz = szOf e ∧ ∀ w (zv : Value), (P.info? e).map (·.zero) = some (some zv) → Kd.FK (kd e) w (fun _ => False) (z e) zv.cells.toList
  int : ∀ k, p.2 = .int k → P.underlying p.1 = some (.int k)
  conc : ∃ d, P.underlying p.1 = some d ∧ ∀ ms, d ≠ .interface ms
  str : p.2 = .str → P.underlying p.1 = some .string
  ptr : ∀ e, p.2 = .ptr e → P.underlying p.1 = some (.pointer e)
  bool : p.2 = .bool → P.underlying p.1 = some .bool
  struct : ∀ l, p.2 = .struct l → structB P p.1 l = true
  map : ∀ k e, p.2 = .map k e → P.underlying p.1 = some (.map k e) ∧ zero e ≠ [] ∧ KeyOk P k ∧ ∀ zv : Value, (P.info? e).map (·.zero) = some (some zv) → (∀ w, Kd.FK (kd e) w (fun _ => False) (z e) zv.cells.toList) ∧ (∀ u ∈ zv.cells.toList, u.oneCell' = true) ∧ (aggT e = false → zv.cells = #[zv])
  arr : ∀ n e, p.2 = .array n e → P.underlying p.1 = some (.array n e) ∧ zero e ≠ [] ∧ (kd e).sz = szOf e ∧ (∀ x, (enc e x).length = szOf e) ∧ (zero p.1 ≠ [] → (zero p.1).map zcell = (flatC e (List.replicate n (z e))).map zcell) ∧ ∀ v ∈ flatC e (List.replicate n (z e)), ∀ t, v ≠ .ro t []
theorem told_int {t : Nat} {k : IntKind} (h : P.underlying t = some (.int k)) : Told P (t, .int k) := by
  refine ⟨?_, ?_, ⟨_, h, fun _ => by simp⟩, ?_, ?_, ?_, ?_, ?_, ?_⟩ <;> intros <;> rename_i h' <;> first | (cases h'; done) | (cases h'; exact h)
theorem told_str {t : Nat} (h : P.underlying t = some .string) : Told P (t, .str) := by
  refine ⟨?_, ?_, ⟨_, h, fun _ => by simp⟩, ?_, ?_, ?_, ?_, ?_, ?_⟩ <;> intros <;> rename_i h' <;> first | (cases h'; done) | exact h
theorem told_struct {t : Nat} {l : List (Nat × Nat × Bool)} (h : structB P t l = true) : Told P (t, .struct l) := by
  obtain ⟨fs, h1, _⟩ := structB_some h
  refine ⟨?_, ?_, ⟨_, h1, fun _ => by simp⟩, ?_, ?_, ?_, ?_, ?_, ?_⟩ <;> intros <;> rename_i h' <;> first | (cases h'; done) | (cases h'; exact h)
theorem told_bool {t : Nat} (h : P.underlying t = some .bool) : Told P (t, .bool) := by
  refine ⟨?_, ?_, ⟨_, h, fun _ => by simp⟩, ?_, ?_, ?_, ?_, ?_, ?_⟩ <;> intros <;> rename_i h' <;> first | (cases h'; done) | exact h
theorem told_slice {t e : Nat} (h : P.underlying t = some (.slice e)) (hz : (zero e).isEmpty = false) (hk : (kd e).sz = szOf e) (zv : Value) (hi : (P.info? e).map (·.zero) = some (some zv)) (hf : ∀ w, Kd.FK (kd e) w (fun _ => False) (z e) zv.cells.toList) : Told P (t, .slice e) := by
  refine ⟨fun e' h' => ?_, fun k' h' => (by cases h'), ⟨_, h, fun _ => by simp⟩, fun h => (by cases h), fun e' h => (by cases h), fun h => (by cases h), fun l' h' => (by cases h'), fun _ _ h => (by cases h), fun n' e' h' => (by cases h')⟩
  cases h'
  refine ⟨h, fun e => (by rw [e] at hz; cases hz), hk, fun w zv' h' => ?_⟩
  rw [hi] at h'
  injection h' with h'
  injection h' with h'
  rw [← h']
  exact hf w
theorem told_map {t k e : Nat} (hu : P.underlying t = some (.map k e)) (hz : (zero e).isEmpty = false) (hk : KeyOk P k) (zv : Value) (hi : (P.info? e).map (·.zero) = some (some zv)) (hf : ∀ w, Kd.FK (kd e) w (fun _ => False) (z e) zv.cells.toList) (ho : zv.cells.toList.all Value.oneCell' = true) (ha : aggT e = true ∨ zv.cells = #[zv]) : Told P (t, .map k e) := by
  refine ⟨fun e' h' => (by cases h'), fun k' h' => (by cases h'), ⟨_, hu, fun _ => by simp⟩, fun h => (by cases h), fun e' h => (by cases h), fun h => (by cases h), fun l' h' => (by cases h'), fun k' e' h' => ?_, fun n' e' h' => (by cases h')⟩
  cases h'
  refine ⟨hu, fun e => (by rw [e] at hz; cases hz), hk, fun zv' h' => ?_⟩
  rw [hi] at h'
  injection h' with h'
  injection h' with h'
  subst h'
  refine ⟨hf, List.all_eq_true.1 ho, fun h => ?_⟩
  rcases ha with ha | ha
  · rw [ha] at h; cases h
  · exact ha
/-- Methods by a list. -/
def methOf : List (Nat × String × Nat × Option Nat) → Nat → String → Option (Nat × Option Nat)
  | [], _, _ => none
  | e :: l, t, n => match Nat.beq t e.1 with
    | true => match instDecidableEqString n e.2.1 with
      | .isTrue _ => some e.2.2
      | .isFalse _ => methOf l t n
    | false => methOf l t n
theorem methOf_mem : ∀ {l : List (Nat × String × Nat × Option Nat)} {t : Nat} {n : String} {x : Nat × Option Nat}, methOf l t n = some x → (t, n, x) ∈ l
  | [], t, n, x, h => by cases h
  | e :: l, t, n, x, h => by
    unfold methOf at h
    split at h
    · rename_i hb
      split at h
      · rename_i hn _
        injection h with h
        rw [Nat.eq_of_beq_eq_true hb, hn, ← h]
        exact List.mem_cons_self
      · exact List.mem_cons_of_mem _ (methOf_mem h)
    · exact List.mem_cons_of_mem _ (methOf_mem h)
def MethOk (P : Program) (e : Nat × String × Nat × Option Nat) : Prop := match e.2.2.2 with
  | none => ∀ v w, (method (P.types.size + Made.depth) e.1 v e.2.1).run P w = .ok (e.2.2.1, v) w
  | some et => ∀ a w, (method (P.types.size + Made.depth) e.1 (.pointer (some a)) e.2.1).run P w = ((loadVar et a).run P w).andThen (fun u w' => .ok (e.2.2.1, u) w')
/-- A program's types, told by lists. -/
theorem laws_of {ml : List (Nat × String × Nat × Option Nat)} (hme : ∀ t n, meth t n = methOf ml t n) (hml : ∀ e ∈ ml, MethOk P e) (heq : ∀ t ks, eqT t = some ks → P.eqGuardType P.depth t = false ∧ ∀ c1 c2 b w, eqVs ks c1 c2 = some b → (Op.equal t (.agg c1.toArray) (.agg c2.toArray)).run P w = .ok b w) (hmix : P.follows .mixedOrders = true) {tl : List (Nat × TD)} {zl : List (Nat × List AV)} {cl : List ((t : Nat) × Cod (El t))} (htd : ∀ t, td t = tdOf tl t) (hz : ∀ t, zero t = zOf zl t) (hke : ∀ t, kd t = (codOf cl t).kd) (hen : ∀ t, HEq (enc t) (codOf cl t).enc) (hde : ∀ t, HEq (dec t) (codOf cl t).dec) (hfl : ∀ t, flat t = (codOf cl t).flat) 
    (ht : ∀ p ∈ tl, Told P p) (hzt : ∀ p ∈ zl, TOk P p.1) (hc : ∀ p ∈ cl, p.2.Ok) : Laws P where
  ok t h := by
    rw [hz] at h
    obtain ⟨x, hx⟩ := zOf_mem h
    exact hzt _ hx
  slice t e h := by
    rw [htd] at h
    obtain ⟨h1, h2, h3, _⟩ := (ht _ (tdOf_mem h (by simp))).slice e rfl
    exact ⟨h1, h2, h3⟩
  int t k h := by
    rw [htd] at h
    exact (ht _ (tdOf_mem h (by simp))).int k rfl
  str t h := by
    rw [htd] at h
    exact (ht _ (tdOf_mem h (by simp))).str rfl
  conc t h := by
    rw [htd] at h
    exact (ht _ (tdOf_mem rfl h)).conc
  ptr t e h := by
    rw [htd] at h
    exact (ht _ (tdOf_mem h (by simp))).ptr e rfl
  bool t h := by
    rw [htd] at h
    exact (ht _ (tdOf_mem h (by simp))).bool rfl
  struct t l i off n b h hi := by
    rw [htd] at h
    exact struct_ok ((ht _ (tdOf_mem h (by simp))).struct l rfl) hi
  arr t n e h := by
    rw [htd] at h
    have := (ht _ (tdOf_mem h (by simp))).arr n e rfl
    exact this
  build t l h := by
    rw [htd] at h
    exact build_ok ((ht _ (tdOf_mem h (by simp))).struct l rfl)
  enc t x c w Im E nx _ h := by
    rw [hke] at h
    rw [eq_of_heq (hen t)]
    exact (codOf_ok hc t).enc x c w Im E nx h
  dec t cs x c w Im E nx _ h hr h1 := by
    rw [hke]
    rw [eq_of_heq (hde t)] at h
    exact (codOf_ok hc t).dec cs x c w Im E nx h hr h1
  meth1 t n f h := by
    rw [hme] at h
    exact hml _ (methOf_mem h)
  meth2 t n f et h := by
    rw [hme] at h
    exact hml _ (methOf_mem h)
  eq := heq
  map t k e h := by
    rw [htd] at h
    obtain ⟨h1, h2, h3, _⟩ := (ht _ (tdOf_mem h (by simp))).map k e rfl
    exact ⟨h1, h2, h3⟩
  mapK t k e _ cs y c w Im E nx h hr h1 E' nx' := by
    rw [eq_of_heq (hen k)]
    rw [eq_of_heq (hde k)] at h
    exact (codOf_ok hc k).enc y c w Im E' nx' ((codOf_ok hc k).dec cs y c w Im E nx h hr h1)
  mapE t k e _ cs x c w Im E nx h hr h1 E' nx' := by
    rw [eq_of_heq (hen e)]
    rw [eq_of_heq (hde e)] at h
    exact (codOf_ok hc e).enc x c w Im E' nx' ((codOf_ok hc e).dec cs x c w Im E nx h hr h1)
  mapZ t k e h zv hz := by
    rw [htd] at h
    obtain ⟨_, _, _, h4⟩ := (ht _ (tdOf_mem h (by simp))).map k e rfl
    obtain ⟨h5, h6, h7⟩ := h4 zv hz
    refine ⟨fun E nx w Im => ?_, h6, h7⟩
    rw [eq_of_heq (hen e)]
    have := h5 w
    rw [hke] at this
    exact (codOf_ok hc e).enc _ _ _ _ _ _ (Kd.FK_mono this (fun _ h => h.elim))
  mixed := hmix
  flat t x c w Im hf h := by
    rw [hfl] at hf
    rw [hke] at h ⊢
    exact (codOf_ok hc t).flat x c w Im hf h
  zero t e w h := by
    rw [htd] at h
    obtain ⟨_, _, _, h4⟩ := (ht _ (tdOf_mem h (by simp))).slice e rfl
    exact h4 w
end
end Go.Proofs.YtnlnjcgoodgmbaaM
