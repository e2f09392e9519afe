/- THE DEN MACHINE, second part: how abstract values and objects stand for a world's. -/
import Derived.Test.YtnlnjcgoodgmbaaD1
import Derived.Test.YtnlnjcgoodgmbaaWNEv
import Derived.Test.YtnlnjcgoodgmbaaWMore
import Derived.Test.YtnlnjcgoodgmbaaWLast
import Derived.Test.YtnlnjcgoodgmbaaWWords
import Derived.Test.YtnlnjcgoodgmbaaWRepsOne
set_option linter.unusedVariables false
set_option linter.unusedSectionVars false
namespace Go.Proofs.YtnlnjcgoodgmbaaM
open Go.RowKit Go.Proofs.YtnlnjcgoodgmbaaW.PrintWords
open Tys Tab
/-- What a seat's element types are in memory. -/
class Kds [Tys] where
  kd : (t : Nat) → Kd (El t)
open Kds
variable [Tys] [Tab] [Kds]
mutual
/-- A value stands for an abstract one. E: the objects' places; nx: how many there are; Im: blocks that never change. -/
def Rep (E : Nat → Value) (nx : Nat) (w : World) (Im : Nat → Prop) : AV → Value → Prop
  | .int k n, v => v = .int k n
  | .bl p d, v => v = .bool (@decide p d)
  | .bo b, v => v = .bool b
  | .str s, v => v = .string s
  | .nili, v => v = .nilIface
  | .nils, v => v = .slice none 0 0
  | .nilp, v => v = .pointer none
  | .agg l, v => ∃ cs : List Value, v = .agg cs.toArray ∧ RepL E nx w Im l cs ∧ ∀ u ∈ cs, u.oneCell' = true
  | .tup l, v => ∃ vs : List Value, v = .tuple vs.toArray ∧ RepL E nx w Im l vs
  | .ro t xs, v => ∃ A c, v = .slice A xs.length c ∧ xs.length ≤ c ∧ Kd.F (kd t) w Im A xs.length xs
  | .own i, v => i < nx ∧ v = E i ∧ ∃ A n c, v = .slice A n c
  | .cut _ _ _, _ => False
  | .ptr i off, v => i < nx ∧ ∃ g, E i = .pointer (some ⟨g, 0, none⟩) ∧ v = .pointer (some ⟨g, off, none⟩)
  | .elp i t j off, v => i < nx ∧ ∃ g n c, E i = .slice (some ⟨g, 0, none⟩) n c ∧ (j < n ∧ (kd t).sz = szOf t ∧ zero t ≠ []) ∧ v = .pointer (some ⟨g, j * (kd t).sz + off, none⟩)
  | .ela i t e j off, v => i < nx ∧ ∃ g n, E i = .pointer (some ⟨g, 0, none⟩) ∧ (td t = .array n e ∧ j < n) ∧ v = .pointer (some ⟨g, j * szOf e + off, none⟩)
  | .rop cs, v => ∃ (a : Addr) (vs : List Value), v = .pointer (some a) ∧ Im a.block ∧ (∀ (q : Nat) u, vs[q]? = some u → w.cell? (a.add q) = some u) ∧ RepL E nx w Im cs vs ∧ ∀ u ∈ vs, u.oneCell' = true
  | .fn f caps, v => ∃ vs : List Value, v = .func (.func f) #[] vs.toArray ∧ RepL E nx w Im caps vs
  | .ifc t a, v => ∃ u, v = .iface t u ∧ Rep E nx w Im a u
  | .bm f first, v => ∃ vs : List Value, v = .func (.func f) vs.toArray #[] ∧ RepL E nx w Im first vs
  | .vro t l, v => ∃ (a : Addr) (us : List Value), v = .slice (some a) l.length l.length ∧ Im a.block ∧ (∀ (q : Nat) u, us[q]? = some u → w.cell? (a.add q) = some u) ∧ RepL E nx w Im l us ∧ ∀ u ∈ us, u.oneCell' = true
  | .mp i, v => i < nx ∧ v = E i ∧ ∃ g, v = .map (some g)
  | .nilf, v => v = .nilFunc
  | .nilm, v => v = .map none
  | .lost, _ => True
def RepL (E : Nat → Value) (nx : Nat) (w : World) (Im : Nat → Prop) : List AV → List Value → Prop
  | [], vs => vs = []
  | a :: l, vs => ∃ v vs', vs = v :: vs' ∧ Rep E nx w Im a v ∧ RepL E nx w Im l vs'
end
section
variable {E E' : Nat → Value} {nx nx' : Nat} {w w' : World} {Im Im' : Nat → Prop}
theorem cell_same {w w' : World} {a : Addr} (h : w'.heap[a.block]? = w.heap[a.block]?) : w'.cell? a = w.cell? a := by simp [World.cell?, h]
mutual
/-- What stands for a value still does in a later world. -/
theorem Rep.step (hw : ∀ k, Im k → k < w.heap.size → w'.heap[k]? = w.heap[k]?) (hi : ∀ k, Im k → Im' k) (hE : ∀ i, i < nx → E' i = E i) (hn : nx ≤ nx') : ∀ (a : AV) (v : Value), Rep E nx w Im a v → Rep E' nx' w' Im' a v
  | .int k n, v, h => h
  | .bl p d, v, h => h
  | .bo b, v, h => h
  | .str s, v, h => h
  | .nili, v, h => h
  | .nils, v, h => h
  | .nilp, v, h => h
  | .agg l, v, h => by
    obtain ⟨cs, e, h1, h2⟩ := h
    exact ⟨cs, e, RepL.step hw hi hE hn l cs h1, h2⟩
  | .tup l, v, h => by
    obtain ⟨cs, e, h1⟩ := h
    exact ⟨cs, e, RepL.step hw hi hE hn l cs h1⟩
  | .ro t xs, v, h => by
    obtain ⟨A, c, e, h1, h2⟩ := h
    exact ⟨A, c, e, h1, Kd.F_mono (Kd.F_step h2 hw) hi⟩
  | .own i, v, h => ⟨by have := h.1; omega, by rw [hE i h.1]; exact h.2.1, h.2.2⟩
  | .cut i lo n, v, h => h
  | .ptr i off, v, h => by
    obtain ⟨h1, g, h2, h3⟩ := h
    exact ⟨by omega, g, by rw [hE i h1]; exact h2, h3⟩
  | .elp i t j off, v, h => by
    obtain ⟨h1, g, n, c, h2, h3⟩ := h
    exact ⟨by omega, g, n, c, by rw [hE i h1]; exact h2, h3⟩
  | .ela i t e j off, v, h => by
    obtain ⟨h1, g, n, h2, h3⟩ := h
    exact ⟨by omega, g, n, by rw [hE i h1]; exact h2, h3⟩
  | .rop cs, v, h => by
    obtain ⟨a, vs, e, h1, h2, h3, h4⟩ := h
    refine ⟨a, vs, e, hi _ h1, fun q u hq => ?_, RepL.step hw hi hE hn cs vs h3, h4⟩
    have h5 := h2 q u hq
    have hb : (a.add q).block = a.block := add_block _ _
    have hlt := World.block_lt_of_cell? w _ h5
    rw [hb] at hlt
    exact (cell_same (by rw [hb]; exact hw _ h1 hlt)).trans h5
  | .fn f caps, v, h => by
    obtain ⟨cs, e, h1⟩ := h
    exact ⟨cs, e, RepL.step hw hi hE hn caps cs h1⟩
  | .ifc t a, v, h => by
    obtain ⟨u, e, h1⟩ := h
    exact ⟨u, e, Rep.step hw hi hE hn a u h1⟩
  | .bm f l, v, h => by
    obtain ⟨cs, e, h1⟩ := h
    exact ⟨cs, e, RepL.step hw hi hE hn l cs h1⟩
  | .vro t l, v, h => by
    obtain ⟨a, vs, e, h1, h2, h3, h4⟩ := h
    refine ⟨a, vs, e, hi _ h1, fun q u hq => ?_, RepL.step hw hi hE hn l vs h3, h4⟩
    have h5 := h2 q u hq
    have hb : (a.add q).block = a.block := add_block _ _
    have hlt := World.block_lt_of_cell? w _ h5
    rw [hb] at hlt
    exact (cell_same (by rw [hb]; exact hw _ h1 hlt)).trans h5
  | .mp i, v, h => ⟨by have := h.1; omega, by rw [hE i h.1]; exact h.2.1, h.2.2⟩
  | .nilf, v, h => h
  | .nilm, v, h => h
  | .lost, v, h => trivial
theorem RepL.step (hw : ∀ k, Im k → k < w.heap.size → w'.heap[k]? = w.heap[k]?) (hi : ∀ k, Im k → Im' k) (hE : ∀ i, i < nx → E' i = E i) (hn : nx ≤ nx') : ∀ (l : List AV) (vs : List Value), RepL E nx w Im l vs → RepL E' nx' w' Im' l vs
  | [], vs, h => h
  | a :: l, vs, h => by
    obtain ⟨v, vs', e, h1, h2⟩ := h
    exact ⟨v, vs', e, Rep.step hw hi hE hn a v h1, RepL.step hw hi hE hn l vs' h2⟩
end
theorem RepL.length : ∀ {l : List AV} {vs : List Value}, RepL E nx w Im l vs → l.length = vs.length
  | [], vs, h => by rw [show vs = [] from h]; rfl
  | a :: l, vs, h => by
    obtain ⟨v, vs', rfl, _, h2⟩ := h
    rw [List.length_cons, List.length_cons, RepL.length h2]
theorem RepL.get : ∀ {l : List AV} {vs : List Value} {i : Nat} {a : AV}, RepL E nx w Im l vs → l[i]? = some a → ∃ v, vs[i]? = some v ∧ Rep E nx w Im a v
  | [], vs, i, a, h, e => by simp at e
  | b :: l, vs, 0, a, h, e => by
    obtain ⟨v, vs', rfl, h1, h2⟩ := h
    rw [List.getElem?_cons_zero] at e
    injection e with e
    exact ⟨v, rfl, e ▸ h1⟩
  | b :: l, vs, i + 1, a, h, e => by
    obtain ⟨v, vs', rfl, h1, h2⟩ := h
    rw [List.getElem?_cons_succ] at e
    obtain ⟨u, hu, h3⟩ := RepL.get h2 e
    exact ⟨u, by rw [List.getElem?_cons_succ]; exact hu, h3⟩
theorem RepL.nil : RepL E nx w Im [] [] := rfl
theorem RepL.cons {a : AV} {v : Value} {l : List AV} {vs : List Value} (h : Rep E nx w Im a v) (h2 : RepL E nx w Im l vs) : RepL E nx w Im (a :: l) (v :: vs) := ⟨v, vs, rfl, h, h2⟩
theorem RepL.append : ∀ {l l' : List AV} {vs vs' : List Value}, RepL E nx w Im l vs → RepL E nx w Im l' vs' → RepL E nx w Im (l ++ l') (vs ++ vs')
  | [], l', vs, vs', h, h' => by rw [show vs = [] from h]; exact h'
  | a :: l, l', vs, vs', h, h' => by
    obtain ⟨v, us, rfl, h1, h2⟩ := h
    exact ⟨v, us ++ vs', rfl, h1, RepL.append h2 h'⟩
theorem RepL.drop : ∀ {l : List AV} {vs : List Value} (n : Nat), RepL E nx w Im l vs → RepL E nx w Im (l.drop n) (vs.drop n)
  | l, vs, 0, h => h
  | [], vs, n + 1, h => by rw [show vs = [] from h]; rfl
  | a :: l, vs, n + 1, h => by
    obtain ⟨v, us, rfl, h1, h2⟩ := h
    exact RepL.drop n h2
theorem RepL.take : ∀ {l : List AV} {vs : List Value} (n : Nat), RepL E nx w Im l vs → RepL E nx w Im (l.take n) (vs.take n)
  | l, vs, 0, h => by rw [List.take_zero, List.take_zero]; rfl
  | [], vs, n + 1, h => by rw [show vs = [] from h]; rfl
  | a :: l, vs, n + 1, h => by
    obtain ⟨v, us, rfl, h1, h2⟩ := h
    exact ⟨v, us.take n, rfl, h1, RepL.take n h2⟩
end
/-- The block that an object's writes go to. -/
def Ob.mb : Ob → Value → Option Nat
  | .box _ _, .pointer (some a) => some a.block
  | .row _ _, v => v.ownBlock
  | .arr _ _ _, .pointer (some a) => some a.block
  | .map _ _ _ _, .map r => r
  | _, _ => none
/-- An array's cells. -/
def flatC (e : Nat) (xs : List (El e)) : List AV := xs.flatMap (enc e)
/-- A map's entries. -/
def EntRel (w : World) (Im : Nat → Prop) (k e : Nat) : List (El k × El e) → List MapEntry → Prop
  | [], ms => ms = []
  | x :: es, ms => ∃ m ms', ms = m :: ms' ∧ (∀ E nx, RepL E nx w Im (enc k x.1) [m.key]) ∧ (∀ E nx, RepL E nx w Im (enc e x.2) m.val.cells.toList) ∧ (∀ u ∈ m.val.cells.toList, u.oneCell' = true) ∧ (aggT e = true → ∃ c, m.val = .agg c) ∧ (aggT e = false → m.val.cells = #[m.val]) ∧ EntRel w Im k e es ms'
theorem EntRel.step {w w' : World} {Im Im' : Nat → Prop} {k e : Nat} (hw : ∀ k, Im k → k < w.heap.size → w'.heap[k]? = w.heap[k]?) (hi : ∀ k, Im k → Im' k) : ∀ (es : List (El k × El e)) (ms : List MapEntry), EntRel w Im k e es ms → EntRel w' Im' k e es ms
  | [], ms, h => h
  | x :: es, ms, h => by
    obtain ⟨m, ms', e1, h1, h2, h3, h4, h5, h6⟩ := h
    exact ⟨m, ms', e1, fun E nx => RepL.step hw hi (fun _ _ => rfl) (Nat.le_refl _) _ _ (h1 E nx), fun E nx => RepL.step hw hi (fun _ _ => rfl) (Nat.le_refl _) _ _ (h2 E nx), h3, h4, h5, EntRel.step hw hi es ms' h6⟩
def ObRel (E : Nat → Value) (nx : Nat) (w : World) (Im : Nat → Prop) (v : Value) : Ob → Prop
  | .box t cs => ∃ (g : Nat) (vs : List Value), v = .pointer (some ⟨g, 0, none⟩) ∧ w.heap[g]? = some (.cells vs.toArray t (0, 0)) ∧ RepL E nx w Im cs vs ∧ ∀ u ∈ vs, u.oneCell' = true
  | .row t xs => Kd.N (kd t) t w 0 (fun k => some k = v.ownBlock ∨ Im k) v xs
  | .arr t e xs => (∃ (g : Nat) (vs : List Value), v = .pointer (some ⟨g, 0, none⟩) ∧ w.heap[g]? = some (.cells vs.toArray t (0, 0)) ∧ (∀ E nx, RepL E nx w Im (flatC e xs) vs) ∧ ∀ u ∈ vs, u.oneCell' = true) ∧ td t = .array xs.length e
  | .map t k e es => ∃ (g : Nat) (ms : List MapEntry) (clk : Nat), v = .map (some g) ∧ w.heap[g]? = some (.map ms.toArray clk) ∧ td t = .map k e ∧ EntRel w Im k e es ms
  | .fro t xs => Rep E nx w Im (.ro t xs) v
  | .dead => True
/-- What lies outside the heap is as it was. -/
def Same (w w' : World) : Prop := w'.os = w.os ∧ w'.tape = w.tape ∧ w'.output = w.output
/-- What a call began with: the world, the blocks that it may write, those that never change, how many objects came in, their places. -/
structure Ctx where
  w0 : World
  M0 : Nat → Prop
  I0 : Nat → Prop
  np : Nat
  E0 : Nat → Value
  n : Nat
/-- The heap's part. -/
structure HRel (C : Ctx) (E : Nat → Value) (Im : Nat → Prop) (nx : Nat) (hp : List (Nat × Ob)) (w : World) : Prop where
  im : ∀ k, Im k → k < w.heap.size
  ob : ∀ i o, get hp i = some o → i < nx ∧ ObRel E nx w Im (E i) o
  dis : ∀ i j oi oj k, i ≠ j → get hp i = some oi → get hp j = some oj → oi.mb (E i) = some k → oj.mb (E j) ≠ some k
  imd : ∀ i o k, get hp i = some o → o.mb (E i) = some k → ¬ Im k
  mu : ∀ i o k, get hp i = some o → o.mb (E i) = some k → (C.M0 k ∨ C.w0.heap.size ≤ k) ∧ k < w.heap.size
  size : C.w0.heap.size ≤ w.heap.size
  frame : ∀ k, k < C.w0.heap.size → ¬ C.M0 k → w.heap[k]? = C.w0.heap[k]?
  same : Same C.w0 w
  imo : ∀ k, Im k → C.I0 k ∨ C.M0 k ∨ C.w0.heap.size ≤ k
  np : C.np ≤ nx
  e0 : ∀ q, q < C.np → E q = C.E0 q
  im0 : ∀ k, C.I0 k → Im k
structure SRel (E : Nat → Value) (Im : Nat → Prop) (s : St) (a : Act) (w : World) : Prop where
  sl : ∀ i v, get s.sl i = some v → ∃ u, a.tmps[i]? = some u ∧ Rep E s.nx w Im v u
  lt : ∀ i v, get s.sl i = some v → i < s.n
  n : s.n ≤ a.tmps.size
  defers : a.defers = []
structure Rel (C : Ctx) (E : Nat → Value) (Im : Nat → Prop) (st : St) (a : Act) (w : World) : Prop where
  h : HRel C E Im st.nx st.hp w
  s : SRel E Im st a w
  n : st.n = C.n
section
variable {C : Ctx} {E E' : Nat → Value} {Im Im' : Nat → Prop} {s : St} {a : Act} {w w' : World}
theorem get_cons {α : Type} (i j : Nat) (x : α) (l : List (Nat × α)) : get ((j, x) :: l) i = if i = j then some x else get l i := by
  rw [get.eq_def]
  simp only
  cases h : Nat.beq i j with
  | true => rw [if_pos (Nat.eq_of_beq_eq_true h)]
  | false => rw [if_neg (Nat.ne_of_beq_eq_false h)]
theorem rep_ofVal {x : Value} {v : AV} {nx : Nat} (h : ofVal x = some v) : Rep E nx w Im v x := by
  unfold ofVal at h
  split at h <;> try (injection h with h; subst h; first | rfl | exact rfl)
  · rename_i b
    injection h with h
    subst h
    cases b <;> rfl
  · cases h
theorem Rel.eval (h : Rel C E Im s a w) {x : Operand} {v : AV} (hx : s.ev x = some v) : Rep E s.nx w Im v (a.eval x) := by
  unfold St.ev at hx
  split at hx
  · rename_i t
    obtain ⟨u, hu, hr⟩ := h.s.sl t v hx
    have e : a.eval (.tmp t) = u := by
      show a.tmps.getD t undef = u
      rw [Array.getD_eq_getD_getElem?, hu]
      rfl
    rw [e]
    exact hr
  · exact rep_ofVal hx
  · injection hx with hx
    subst hx
    exact ⟨[], rfl, rfl⟩
  · cases hx
theorem SRel.put {d : Option Nat} {v : AV} {u : Value} (h : SRel E Im s a w) (hv : Rep E s.nx w Im v u) : SRel E Im (s.put d v) (a.put d u) w := by
  unfold St.put Act.put
  cases d with
  | none => exact h
  | some d =>
    simp only
    have hs : s.n ≤ (a.tmps.setIfInBounds d u).size := by rw [Array.size_setIfInBounds]; exact h.n
    cases hb : Nat.blt d s.n with
    | true =>
      have hlt : d < s.n := by simpa [Nat.blt_eq] using hb
      refine ⟨fun i x hx => ?_, fun i x hx => ?_, hs, h.defers⟩
      rotate_left
      · simp only at hx
        rw [get_cons] at hx
        split at hx
        · simp only; omega
        · exact h.lt i x hx
      simp only at hx ⊢
      rw [get_cons] at hx
      by_cases e : i = d
      · rw [if_pos e] at hx
        injection hx with hx
        subst hx
        subst e
        exact ⟨u, by rw [Array.getElem?_setIfInBounds_self_of_lt (by have := h.n; omega)], hv⟩
      · rw [if_neg e] at hx
        obtain ⟨y, hy, hr⟩ := h.sl i x hx
        exact ⟨y, by rw [Array.getElem?_setIfInBounds_ne (by omega)]; exact hy, hr⟩
    | false =>
      have hge : s.n ≤ d := by
        have : ¬ d < s.n := by intro h'; rw [← Nat.blt_eq] at h'; rw [h'] at hb; cases hb
        omega
      refine ⟨fun i x hx => ?_, h.lt, hs, h.defers⟩
      obtain ⟨y, hy, hr⟩ := h.sl i x hx
      exact ⟨y, by rw [Array.getElem?_setIfInBounds_ne (by have := h.lt i x hx; omega)]; exact hy, hr⟩
theorem Rel.put {d : Option Nat} {v : AV} {u : Value} (h : Rel C E Im s a w) (hv : Rep E s.nx w Im v u) : Rel C E Im (s.put d v) (a.put d u) w := by
  have h2 := h.s.put (d := d) hv
  refine ⟨?_, h2, ?_⟩
  rotate_left
  · rw [← h.n]; unfold St.put; split <;> (try split) <;> rfl
  have e1 : (s.put d v).nx = s.nx := by unfold St.put; split <;> (try split) <;> rfl
  have e2 : (s.put d v).hp = s.hp := by unfold St.put; split <;> (try split) <;> rfl
  rw [e1, e2]
  exact h.h
end
end Go.Proofs.YtnlnjcgoodgmbaaM
