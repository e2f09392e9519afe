/- THE DEN MACHINE, seventh part: rows frozen and thawed; variables, records and literals that are made. -/
import Derived.Test.YtnlnjcgoodgmbaaD6
set_option linter.unusedVariables false
set_option linter.unusedSectionVars false
namespace Go.Proofs.YtnlnjcgoodgmbaaM
open Go.RowKit Go.Proofs.YtnlnjcgoodgmbaaW.PrintWords
open Tys Tab Kds
variable [Tys] [Tab] [Kds]
section
variable {P : Program} [Laws P] {C : Ctx} {E : Nat → Value} {Im : Nat → Prop} {s : St} {a : Act} {w w' : World} {next : Act → World → Prop} {Q : Exit → Act → World → Prop} {o : Oper} {ρ : Type} {r : ρ} {K : St → Option ρ}
theorem look_obj (s : St) (i j : Nat) (o : Ob) : (s.obj i o).look j = if j = i then o else s.look j := by
  unfold St.look St.obj
  rw [get_cons]
  by_cases e : j = i
  · rw [if_pos e, if_pos e]
  · rw [if_neg e, if_neg e]
theorem freeze_ok : ∀ (cs : List AV) (s : St) (Im : Nat → Prop) (c : List Value) (K : List AV → St → Option ρ), freeze cs s K = some r → Rel C E Im s a w → RepL E s.nx w Im cs c →
    ∃ l s' Im', K l s' = some r ∧ Rel C E Im' s' a w ∧ RepL E s.nx w Im' l c ∧ (∀ k, Im k → Im' k) ∧ s'.nx = s.nx ∧ s'.sl = s.sl ∧ s'.n = s.n ∧ ∀ i, s'.look i = s.look i ∨ ∃ t xs, s.look i = .row t xs ∧ s'.look i = .fro t xs
  | [], s, Im, c, K, h, hR, hl => ⟨[], s, Im, h, hR, hl, fun _ h => h, rfl, rfl, rfl, fun _ => .inl rfl⟩
  | v :: l, s, Im, c, K, h, hR, hl => by
    obtain ⟨u, c', rfl, hv, hl'⟩ := hl
    have plain : ∀ (K' : List AV → St → Option ρ), freeze l s K' = some r → (∀ l' s', K' l' s' = K (v :: l') s') → ∃ l' s' Im', K l' s' = some r ∧ Rel C E Im' s' a w ∧ RepL E s.nx w Im' l' (u :: c') ∧ (∀ k, Im k → Im' k) ∧ s'.nx = s.nx ∧ s'.sl = s.sl ∧ s'.n = s.n ∧ ∀ i, s'.look i = s.look i ∨ ∃ t xs, s.look i = .row t xs ∧ s'.look i = .fro t xs := by
      intro K' h' hK
      obtain ⟨l', s', Im', h1, h2, h3, h4, h5⟩ := freeze_ok l s Im c' K' h' hR hl'
      exact ⟨v :: l', s', Im', by rw [← hK]; exact h1, h2, ⟨u, c', rfl, Rep.step (fun _ _ _ => rfl) h4 (fun _ _ => rfl) (Nat.le_refl _) _ _ hv, h3⟩, h4, h5⟩
    unfold freeze at h
    split at h
    · rename_i i
      split at h
      · rename_i t xs hlk
        have hF := hR.freeze hlk
        have hst : ∀ k, Im k → (Im k ∨ (E i).ownBlock = some k) := fun _ hk => .inl hk
        obtain ⟨l', s', Im', h1, h2, h3, h4, h5, h6, h7, h8⟩ := freeze_ok l (s.obj i (.fro t xs)) _ c' _ h hF (RepL.step (fun _ _ _ => rfl) hst (fun _ _ => rfl) (Nat.le_refl _) _ _ hl')
        refine ⟨.ro t xs :: l', s', Im', h1, h2, ⟨u, c', rfl, ?_, h3⟩, fun k hk => h4 k (.inl hk), h5, h6, h7, fun j => ?_⟩
        · have hob := (hF.h.ob i _ (look_some (by rw [look_obj, if_pos rfl]) (by simp))).2
          have hob' : Rep E s.nx w (fun k => Im k ∨ (E i).ownBlock = some k) (.ro t xs) (E i) := hob
          rw [hv.2.1]
          exact Rep.step (fun _ _ _ => rfl) h4 (fun _ _ => rfl) (Nat.le_refl _) _ _ hob'
        · have := h8 j
          rw [look_obj] at this
          by_cases e : j = i
          · rw [if_pos e] at this
            subst e
            rcases this with e | ⟨_, _, e, _⟩
            · exact .inr ⟨t, xs, hlk, e⟩
            · cases e
          · rwa [if_neg e] at this
      · rename_i t xs hlk
        obtain ⟨l', s', Im', h1, h2, h3, h4, h5⟩ := freeze_ok l s Im c' _ h hR hl'
        refine ⟨.ro t xs :: l', s', Im', h1, h2, ⟨u, c', rfl, ?_, h3⟩, h4, h5⟩
        have hob := (hR.h.ob i _ (look_some hlk (by simp))).2
        have hob' : Rep E s.nx w Im (.ro t xs) (E i) := hob
        rw [hv.2.1]
        exact Rep.step (fun _ _ _ => rfl) h4 (fun _ _ => rfl) (Nat.le_refl _) _ _ hob'
      · cases h
    · exact plain _ h (fun _ _ => rfl)
theorem onEl_ok (P : Program) [Laws P] {t : Nat} (hz : zero t ≠ []) {cs : List AV} {c : List Value} {K : El t → St → Option ρ} (h : onEl t cs s K = some r) (hR : Rel C E Im s a w) (hl : RepL E s.nx w Im cs c) (h1 : ∀ u ∈ c, u.oneCell' = true) :
    ∃ x s' Im', K x s' = some r ∧ Rel C E Im' s' a w ∧ Kd.FK (kd t) w Im' x c ∧ (∀ k, Im k → Im' k) ∧ s'.nx = s.nx ∧ s'.sl = s.sl ∧ s'.n = s.n ∧ ∀ i, s'.look i = s.look i ∨ ∃ t xs, s.look i = .row t xs ∧ s'.look i = .fro t xs := by
  unfold onEl at h
  obtain ⟨l, s', Im', h2, h3, h4, h5, h6⟩ := freeze_ok (E := E) (a := a) (w := w) cs s Im c _ h hR hl
  split at h2
  · rename_i x hx
    exact ⟨x, s', Im', h2, h3, Laws.dec (P := P) t l x c w Im' E s.nx hz hx h4 h1, h5, h6⟩
  · cases h2
theorem zcell_rep {v : AV} {u : Value} {nx : Nat} (h : zcell v = some u) (hne : ∀ t, v ≠ .ro t []) : Rep E nx w Im v u ∧ u.oneCell' = true := by
  unfold zcell at h
  split at h <;> first
    | (injection h with h; subst h; first | exact ⟨rfl, rfl⟩ | exact absurd rfl (hne _))
    | cases h
theorem thaw_ok : ∀ (cs : List AV) (s : St) (E : Nat → Value) (c : List Value) (K : List AV → St → Option ρ), thaw cs s K = some r → Rel C E Im s a w → c.map some = cs.map zcell →
    ∃ l s' E', K l s' = some r ∧ Rel C E' Im s' a w ∧ RepL E' s'.nx w Im l c ∧ (∀ u ∈ c, u.oneCell' = true) ∧ s.nx ≤ s'.nx ∧ s'.sl = s.sl ∧ s'.n = s.n ∧ (∀ i, i < s.nx → E' i = E i) ∧ l.length = cs.length
  | [], s, E, c, K, h, hR, hc => by
    have : c = [] := by simpa using hc
    subst this
    exact ⟨[], s, E, h, hR, rfl, fun u hu => (by cases hu), Nat.le_refl _, rfl, rfl, fun _ _ => rfl, rfl⟩
  | v :: l, s, E, c, K, h, hR, hc => by
    obtain ⟨u, c', rfl⟩ : ∃ u c', c = u :: c' := by
      cases c with
      | nil => simp at hc
      | cons u c' => exact ⟨u, c', rfl⟩
    simp only [List.map_cons, List.cons.injEq] at hc
    obtain ⟨hu, hc'⟩ := hc
    unfold thaw at h
    split at h
    · rename_i t
      have e : u = .slice none 0 0 := by
        have : some u = some (Value.slice none 0 0) := hu
        injection this
      subst e
      have hN := hR.new (w' := w) (Same.refl _) (fun _ _ => rfl) (Nat.le_refl _) (.slice none 0 0) (.row t []) (Kd.N_nil _ _ _ _ _) (fun k hk => by simp [Ob.mb, Value.ownBlock] at hk)
      obtain ⟨l', s', E', h1, h2, h3, h4, h5, h6, h7, h8, h9⟩ := thaw_ok l (s.new (.row t [])) _ c' _ h hN hc'
      have h5' : s.nx + 1 ≤ s'.nx := h5
      refine ⟨.own s.nx :: l', s', E', h1, h2, ⟨_, c', rfl, ⟨by omega, ?_, _, _, _, rfl⟩, h3⟩, fun x hx => ?_, by omega, h6, h7, fun i hi => ?_, by simp [h9]⟩
      · rw [h8 s.nx (Nat.lt_succ_self _), ext_self]
      · rcases List.mem_cons.1 hx with rfl | hx
        · rfl
        · exact h4 x hx
      · rw [h8 i (Nat.lt_succ_of_lt hi), ext_lt hi]
    · rename_i hne
      obtain ⟨l', s', E', h1, h2, h3, h4, h5, h6, h7, h8, h9⟩ := thaw_ok l s E c' _ h hR hc'
      obtain ⟨hr, ho⟩ := zcell_rep (E := E') (w := w) (Im := Im) (nx := s'.nx) hu.symm (fun t e => hne t e)
      refine ⟨v :: l', s', E', h1, h2, ⟨_, c', rfl, hr, h3⟩, fun x hx => ?_, h5, h6, h7, h8, by simp [h9]⟩
      rcases List.mem_cons.1 hx with rfl | hx
      · exact ho
      · exact h4 x hx
/-- A new variable. -/
theorem newBox (hR : Rel C E Im s a w) {t : Nat} {cs : List AV} {vs : List Value} (hl : RepL E s.nx w Im cs vs) (h1 : ∀ u ∈ vs, u.oneCell' = true) :
    Rel C (ext E s.nx (.pointer (some ⟨w.heap.size, 0, none⟩))) Im (s.new (.box t cs)) a (w.alloc (.cells vs.toArray t (0, 0))) := by
  have hsame : ∀ k, k < w.heap.size → (w.alloc (.cells vs.toArray t (0, 0))).heap[k]? = w.heap[k]? := fun k hk => (below_alloc (Below.refl w.heap.size w) _).block k hk
  refine hR.new (show Same w (w.alloc (.cells vs.toArray t (0, 0))) from ⟨rfl, rfl, rfl⟩) hsame ?_ _ _ ⟨w.heap.size, vs, rfl, blk_new w _, RepL.step (fun k hk hlt => hsame k hlt) (fun _ h => h) (fun i hi => ext_lt hi) (Nat.le_succ _) _ _ hl, h1⟩ (fun k hk => ?_)
  · exact (below_alloc (Below.refl w.heap.size w) (.cells vs.toArray t (0, 0))).size
  · have : w.heap.size = k := by simpa [Ob.mb] using hk
    omega
theorem info_zero {t : Nat} (h : TOk P t) : ∃ zv : Value, (∀ w, (zeroValue t).run P w = .ok zv w) ∧ zv.cells.size = szOf t ∧ zv.cells.toList.map some = (zero t).map zcell ∧ (aggT t = true → ∃ c, zv = .agg c) ∧ (P.info? t).map (·.zero) = some (some zv) := by
  obtain ⟨zv, b, h1, h2, _, _, h3, h4⟩ := h.info
  cases hq : P.info? t with
  | none => rw [hq] at h1; simp at h1
  | some i =>
    rw [hq] at h1
    simp only [Option.map_some, Option.some.injEq, Prod.mk.injEq] at h1
    exact ⟨zv, fun w => by simp [zeroValue, typeInfo, hq, h1.1], h2, h3, h4, by simp [h1.1]⟩
theorem zcells_rep {nx : Nat} : ∀ {l : List AV} {vs : List Value}, vs.map some = l.map zcell → (∀ v ∈ l, ∀ t, v ≠ .ro t []) → RepL E nx w Im l vs ∧ ∀ u ∈ vs, u.oneCell' = true
  | [], [], _, _ => ⟨rfl, fun u hu => by cases hu⟩
  | [], _ :: _, h, _ => by cases h
  | _ :: _, [], h, _ => by cases h
  | a :: l, v :: vs, h, hno => by
    rw [List.map_cons, List.map_cons] at h
    injection h with h1 h2
    obtain ⟨r1, r2⟩ := zcell_rep (E := E) (w := w) (Im := Im) (nx := nx) h1.symm (hno a List.mem_cons_self)
    obtain ⟨q1, q2⟩ := zcells_rep h2 (fun v hv => hno v (List.mem_cons_of_mem _ hv))
    exact ⟨⟨v, vs, rfl, r1, q1⟩, fun u hu => by
      rcases List.mem_cons.1 hu with rfl | hu
      · exact r2
      · exact q2 u hu⟩
theorem okN_alloc {t : TypeId} (ho : o.op = .alloc t) (h : opK o s K = some r) (hR : Rel C E Im s a w) (hn : GoesN C r K next w) : o.wp P a w next Q := by
  simp only [opK, ho] at h
  split at h
  · cases h
  rename_i c0 l0 hz0
  have hz : zero t ≠ [] := by rw [hz0]; simp
  rw [← hz0] at h
  obtain ⟨zv, hzr, hzs, hzc, _, _⟩ := info_zero (P := P) (Laws.ok (P := P) t hz)
  split at h
  · rename_i n e htd
    replace htd := arrOf_some htd
    obtain ⟨_, hze, _, _, hzz, hno⟩ := Laws.arr (P := P) t n e htd
    rw [hzz hz] at hzc
    have hl := fun (E : Nat → Value) (nx : Nat) => (zcells_rep (E := E) (nx := nx) (w := w) (Im := Im) hzc hno).1
    have h1 := (zcells_rep (E := E) (nx := s.nx) (w := w) (Im := Im) hzc hno).2
    have hsame : ∀ k, k < w.heap.size → (w.alloc (.cells zv.cells.toList.toArray t (0, 0))).heap[k]? = w.heap[k]? := fun k hk => (below_alloc (Below.refl w.heap.size w) _).block k hk
    have hB := hR.new (show Same w (w.alloc (.cells zv.cells.toList.toArray t (0, 0))) from ⟨rfl, rfl, rfl⟩) hsame (below_alloc (Below.refl w.heap.size w) (.cells zv.cells.toList.toArray t (0, 0))).size (.pointer (some ⟨w.heap.size, 0, none⟩)) (.arr t e (List.replicate n (z e))) ⟨⟨w.heap.size, zv.cells.toList, rfl, blk_new w _, fun E nx => RepL.step (fun k hk hlt => hsame k hlt) (fun _ h => h) (fun i hi => rfl) (Nat.le_refl _) _ _ (hl E nx), h1⟩, by rw [List.length_replicate]; exact htd⟩ (fun k hk => by
      have : w.heap.size = k := by simpa [Ob.mb] using hk
      omega)
    refine wp_val (v := .pointer (some ⟨w.heap.size, 0, none⟩)) ?_ (hn _ _ _ _ _ h (hB.put (v := .ptr s.nx 0) ⟨Nat.lt_succ_self _, w.heap.size, ext_self, rfl⟩) (cls_alloc _))
    simp only [execOp, ho, Sem.run_bind, Instr.alloc, hzr, Result.andThen_ok, newVar, newRow, run_newObj, Sem.run_pure]
    rfl
  obtain ⟨l, s', E', h1, h2, h3, h4, h5, h6, h7, h8, _⟩ := thaw_ok (zero t) s E _ _ h hR hzc
  have hB := newBox (t := t) h2 h3 h4
  refine wp_val (v := .pointer (some ⟨w.heap.size, 0, none⟩)) ?_ (hn _ _ _ _ _ h1 (hB.put (v := .ptr s'.nx 0) ⟨Nat.lt_succ_self _, w.heap.size, ext_self, rfl⟩) (cls_alloc _))
  simp only [execOp, ho, Sem.run_bind, Instr.alloc, hzr, Result.andThen_ok, newVar, newRow, run_newObj, Sem.run_pure]
  rfl
theorem ok_alloc {t : TypeId} (ho : o.op = .alloc t) (h : opK o s K = some r) (hR : Rel C E Im s a w) (hn : Goes C r K next) : o.wp P a w next Q := okN_alloc ho h hR hn.toN
theorem onC_some {v : Option AV} {K : List AV → Option ρ} (h : onC v K = some r) : ∃ x l, v = some x ∧ K l = some r ∧ ∀ (E : Nat → Value) nx w Im u, Rep E nx w Im x u → RepL E nx w Im l u.cells.toList ∧ ∀ y ∈ u.cells.toList, y.oneCell' = true := by
  have one : ∀ (x : AV) (E : Nat → Value) nx w Im (u : Value), Rep E nx w Im x u → u.cells = #[u] → u.oneCell' = true → RepL E nx w Im [x] u.cells.toList ∧ ∀ y ∈ u.cells.toList, y.oneCell' = true := by
    intro x E nx w Im u hr e ho
    rw [e]
    exact ⟨⟨u, [], rfl, hr, rfl⟩, fun y hy => by rw [List.mem_singleton.1 hy]; exact ho⟩
  unfold onC at h
  split at h
  · rename_i x
    cases x <;> simp only at h
    case agg l =>
      refine ⟨_, _, rfl, h, fun E nx w Im u hu => ?_⟩
      obtain ⟨cs, rfl, h1, h2⟩ := hu
      exact ⟨by simpa [Value.cells] using h1, by simpa [Value.cells] using h2⟩
    case lost | tup | cut | nils => cases h
    case own i => exact ⟨_, _, rfl, h, fun E nx w Im u hu => by obtain ⟨A, n, c, rfl⟩ := hu.2.2; exact one _ E nx w Im _ hu rfl rfl⟩
    case ro t xs => exact ⟨_, _, rfl, h, fun E nx w Im u hu => by have h' := hu; obtain ⟨A, c, rfl, _⟩ := hu; exact one _ E nx w Im _ h' rfl rfl⟩
    case ptr i off => exact ⟨_, _, rfl, h, fun E nx w Im u hu => by have h' := hu; obtain ⟨_, g, _, rfl⟩ := hu; exact one _ E nx w Im _ h' rfl rfl⟩
    case elp i t j off => exact ⟨_, _, rfl, h, fun E nx w Im u hu => by have h' := hu; obtain ⟨_, g, n, c, _, _, rfl⟩ := hu; exact one _ E nx w Im _ h' rfl rfl⟩
    case ela i t e j off => exact ⟨_, _, rfl, h, fun E nx w Im u hu => by have h' := hu; obtain ⟨_, g, n, _, _, rfl⟩ := hu; exact one _ E nx w Im _ h' rfl rfl⟩
    case rop cs => exact ⟨_, _, rfl, h, fun E nx w Im u hu => by have h' := hu; obtain ⟨g, vs, rfl, _⟩ := hu; exact one _ E nx w Im _ h' rfl rfl⟩
    case ifc t v => exact ⟨_, _, rfl, h, fun E nx w Im u hu => by have h' := hu; obtain ⟨z, rfl, _⟩ := hu; exact one _ E nx w Im _ h' rfl rfl⟩
    case fn f caps => exact ⟨_, _, rfl, h, fun E nx w Im u hu => by have h' := hu; obtain ⟨vs, rfl, _⟩ := hu; exact one _ E nx w Im _ h' rfl rfl⟩
    case int k n => exact ⟨_, _, rfl, h, fun E nx w Im u hu => by have h' := hu; obtain rfl := (show u = .int k n from hu); exact one _ E nx w Im _ h' rfl rfl⟩
    case bl p d => exact ⟨_, _, rfl, h, fun E nx w Im u hu => by have h' := hu; obtain rfl := (show u = .bool (@decide p d) from hu); exact one _ E nx w Im _ h' rfl rfl⟩
    case bo b => exact ⟨_, _, rfl, h, fun E nx w Im u hu => by have h' := hu; obtain rfl := (show u = .bool b from hu); exact one _ E nx w Im _ h' rfl rfl⟩
    case str b => exact ⟨_, _, rfl, h, fun E nx w Im u hu => by have h' := hu; obtain rfl := (show u = .string b from hu); exact one _ E nx w Im _ h' rfl rfl⟩
    case nili => exact ⟨_, _, rfl, h, fun E nx w Im u hu => by have h' := hu; obtain rfl := (show u = .nilIface from hu); exact one _ E nx w Im _ h' rfl rfl⟩
    case bm f caps => exact ⟨_, _, rfl, h, fun E nx w Im u hu => by have h' := hu; obtain ⟨vs, rfl, _⟩ := hu; exact one _ E nx w Im _ h' rfl rfl⟩
    case vro t vs => exact ⟨_, _, rfl, h, fun E nx w Im u hu => by have h' := hu; obtain ⟨g, vs, rfl, _⟩ := hu; exact one _ E nx w Im _ h' rfl rfl⟩
    case mp i => exact ⟨_, _, rfl, h, fun E nx w Im u hu => by obtain ⟨g, rfl⟩ := hu.2.2; exact one _ E nx w Im _ hu rfl rfl⟩
    case nilf => exact ⟨_, _, rfl, h, fun E nx w Im u hu => by have h' := hu; obtain rfl := (show u = .nilFunc from hu); exact one _ E nx w Im _ h' rfl rfl⟩
    case nilm => exact ⟨_, _, rfl, h, fun E nx w Im u hu => by have h' := hu; obtain rfl := (show u = .map none from hu); exact one _ E nx w Im _ h' rfl rfl⟩
    case nilp => exact ⟨_, _, rfl, h, fun E nx w Im u hu => by have h' := hu; obtain rfl := (show u = .pointer none from hu); exact one _ E nx w Im _ h' rfl rfl⟩
  · cases h
theorem okN_box {t : TypeId} {x : Operand} (ho : o.op = .box t x) (h : opK o s K = some r) (hR : Rel C E Im s a w) (hn : GoesN C r K next w) : o.wp P a w next Q := by
  simp only [opK, ho] at h
  obtain ⟨v, l, hv, h2, hrep⟩ := onC_some h
  obtain ⟨hl, h1⟩ := hrep _ _ _ _ _ (hR.eval hv)
  have hB := newBox (t := t) hR hl h1
  refine wp_val (v := .pointer (some ⟨w.heap.size, 0, none⟩)) ?_ (hn _ _ _ _ _ h2 (hB.put (v := .ptr s.nx 0) ⟨Nat.lt_succ_self _, w.heap.size, ext_self, rfl⟩) (cls_alloc _))
  simp only [execOp, ho, Sem.run_bind, Instr.box, Result.andThen_ok, newVar, newRow, run_newObj, Sem.run_pure]
  rfl
theorem ok_box {t : TypeId} {x : Operand} (ho : o.op = .box t x) (h : opK o s K = some r) (hR : Rel C E Im s a w) (hn : Goes C r K next) : o.wp P a w next Q := okN_box ho h hR hn.toN
theorem splice_l : ∀ (l : List Value) (k off : Nat) (pre mid post : List Value), mid.length = l.length → pre.length = off + k → (l.zipIdx k).foldl (fun (cs : Array Value) (p : Value × Nat) => cs.setIfInBounds (off + p.2) p.1) (pre ++ mid ++ post).toArray = (pre ++ l ++ post).toArray
  | [], k, off, pre, mid, post, h, _ => by
    have : mid = [] := by simpa using h
    subst this
    rfl
  | c :: l, k, off, pre, mid, post, h, hp => by
    obtain ⟨m, mid, rfl⟩ : ∃ m mid', mid = m :: mid' := by
      cases mid with
      | nil => simp at h
      | cons m mid => exact ⟨m, mid, rfl⟩
    rw [List.zipIdx_cons, List.foldl_cons]
    have e : (pre ++ m :: mid ++ post).toArray.setIfInBounds (off + k) c = ((pre ++ [c]) ++ mid ++ post).toArray := by
      rw [← hp]
      simp
    rw [e, splice_l l (k + 1) off (pre ++ [c]) mid post (by simpa using h) (by simp; omega)]
    simp
/-- Cells laid over others. -/
theorem splice {l : Array Value} {cells : List Value} {off : Nat} (h : off + l.size ≤ cells.length) : l.zipIdx.foldl (fun cs (c, j) => cs.setIfInBounds (off + j) c) cells.toArray = (cells.take off ++ l.toList ++ cells.drop (off + l.size)).toArray := by
  have h1 := splice_l l.toList 0 off (cells.take off) ((cells.drop off).take l.size) (cells.drop (off + l.size)) (by simp; omega) (by simp; omega)
  have e : cells.take off ++ (cells.drop off).take l.size ++ cells.drop (off + l.size) = cells := by
    rw [List.append_assoc, ← List.drop_drop, List.take_append_drop, List.take_append_drop]
  rw [e] at h1
  rw [← h1]
  have e2 : l.zipIdx = (l.toList.zipIdx 0).toArray := by
    apply Array.ext'
    simp
  rw [e2]
  simp
theorem upd_rep {nx off : Nat} {cs seg : List AV} {vs us : List Value} (h : RepL E nx w Im cs vs) (h2 : RepL E nx w Im seg us) : RepL E nx w Im (upd cs off seg) (vs.take off ++ us ++ vs.drop (off + us.length)) := by
  unfold upd
  rw [RepL.length h2]
  exact RepL.append (RepL.append (RepL.take _ h) h2) (RepL.drop _ h)
theorem upd_one {off : Nat} {vs us : List Value} (h : ∀ u ∈ vs, u.oneCell' = true) (h2 : ∀ u ∈ us, u.oneCell' = true) : ∀ u ∈ vs.take off ++ us ++ vs.drop (off + us.length), u.oneCell' = true := by
  intro u hu
  rcases List.mem_append.1 hu with hu | hu
  · rcases List.mem_append.1 hu with hu | hu
    · exact h u (List.mem_of_mem_take hu)
    · exact h2 u hu
  · exact h u (List.mem_of_mem_drop hu)
theorem fill_ok {t : Nat} {l : List (Nat × Nat × Bool)} (htd : td t = .struct l) {E' : Nat → Value} {nx' : Nat} (hR : Rel C E Im s a w) (hE : ∀ i, i < s.nx → E' i = E i) (hn : s.nx ≤ nx') : ∀ (ps : List (Nat × Operand)) (cs : List AV) (vs : List Value) (K : List AV → Option ρ), fill t s ps cs K = some r → RepL E' nx' w Im cs vs → (∀ u ∈ vs, u.oneCell' = true) →
    ∃ cs' vs', K cs' = some r ∧ RepL E' nx' w Im cs' vs' ∧ (∀ u ∈ vs', u.oneCell' = true) ∧ Instr.fill ((l.map fun x => (x.1, x.2.1)).toArray[·]?) vs.toArray (ps.map fun p => (p.1, a.eval p.2)) = some vs'.toArray
  | [], cs, vs, K, h, hl, h1 => ⟨cs, vs, h, hl, h1, rfl⟩
  | (i, x) :: ps, cs, vs, K, h, hl, h1 => by
    unfold fill at h
    obtain ⟨v, seg, hv, h2, hrep⟩ := onC_some h
    obtain ⟨l', off, n, b, htd', hli, h3⟩ := fieldOf_some h2
    rw [htd] at htd'
    injection htd' with htd'
    subst htd'
    split at h3
    · rename_i hb
      simp only [Bool.and_eq_true] at hb
      have hn1 : seg.length = n := Nat.eq_of_beq_eq_true hb.1
      have hn2 : off + n ≤ cs.length := Nat.le_of_ble_eq_true hb.2
      obtain ⟨hs, hs1⟩ := hrep _ _ _ _ _ (Rep.step (fun _ _ _ => rfl) (fun _ h => h) hE hn _ _ (hR.eval hv))
      have hlen := RepL.length hs
      have hlen2 := RepL.length hl
      obtain ⟨cs', vs', h4, h5, h6, h7⟩ := fill_ok htd hR hE hn ps _ _ K h3 (upd_rep (off := off) hl hs) (upd_one h1 hs1)
      refine ⟨cs', vs', h4, h5, h6, ?_⟩
      rw [← h7, List.map_cons]
      have hsz : (a.eval x).cells.size = n := by rw [← hn1, hlen]; simp
      have hpl : ((l.map fun x => (x.1, x.2.1)).toArray[i]?) = some (off, n) := by simp [hli]
      rw [Instr.fill]
      simp only [hpl]
      have hc : ¬ ((a.eval x).cells.size ≠ n || decide (off + (a.eval x).cells.size > vs.toArray.size)) = true := by
        simp [hsz]
        omega
      rw [if_neg hc, splice (by rw [hsz]; omega)]
      simp only [hsz, Array.length_toList]
    · cases h3
theorem okN_build {t : TypeId} {ps : Array (Nat × Operand)} (ho : o.op = .build t ps) (h : opK o s K = some r) (hR : Rel C E Im s a w) (hn : GoesN C r K next w) : o.wp P a w next Q := by
  simp only [opK, ho] at h
  split at h
  · rename_i l c0 l0 htd hz0
    have hz : zero t ≠ [] := by rw [hz0]; simp
    rw [← hz0] at h
    obtain ⟨zv, hzr, hzs, hzc, hza, _⟩ := info_zero (P := P) (Laws.ok (P := P) t hz)
    obtain ⟨cs, s', E', h1, h2, h3, h4, h5, h6, h7, h8, _⟩ := thaw_ok (zero t) s E _ _ h hR hzc
    obtain ⟨cs', vs', h9, h10, h11, h12⟩ := fill_ok htd hR h8 h5 ps.toList cs _ _ h1 h3 h4
    obtain ⟨fs, hu, hpl⟩ := Laws.build (P := P) t l htd
    refine wp_val (v := .agg vs'.toArray) ?_ (hn _ _ _ _ _ h9 (h2.put (v := .agg cs') ⟨vs', rfl, h10, h11⟩) (Cls.refl w))
    have e : (ps.map fun (p : Nat × Operand) => (p.1, a.eval p.2)).toList = ps.toList.map fun p => (p.1, a.eval p.2) := by simp
    have hpl' := hpl w
    simp only [execOp, ho, Sem.run_bind, Instr.build, hzr, Result.andThen_ok, underlying, run_program, hu, Sem.run_pure, hpl', e]
    have h12' : Instr.fill ((l.map fun x => (x.1, x.2.1)).toArray[·]?) zv.cells (ps.toList.map fun p => (p.1, a.eval p.2)) = some vs'.toArray := by simpa using h12
    rw [h12']
    rfl
  · cases h
theorem ok_build {t : TypeId} {ps : Array (Nat × Operand)} (ho : o.op = .build t ps) (h : opK o s K = some r) (hR : Rel C E Im s a w) (hn : Goes C r K next) : o.wp P a w next Q := okN_build ho h hR hn.toN
theorem thaw_noRo : ∀ (l : List AV) (s : St) (K : List AV → St → Option ρ), noRoB l = true → thaw l s K = K l s
  | [], s, K, _ => rfl
  | v :: l, s, K, h => by
    unfold noRoB at h
    split at h
    · cases h
    · rename_i hv
      unfold thaw
      split
      · exact absurd rfl (hv _ _)
      · exact thaw_noRo l s _ h
theorem noRo_ne : ∀ (l : List AV), noRoB l = true → ∀ v ∈ l, ∀ t, v ≠ .ro t []
  | [], _, v, hv, _ => by cases hv
  | x :: l, h, v, hv, t => by
    unfold noRoB at h
    split at h
    · cases h
    · rename_i hx
      rcases List.mem_cons.1 hv with rfl | hv
      · exact fun e => hx _ _ e
      · exact noRo_ne l h v hv t
theorem y_build {t : TypeId} {ps : Array (Nat × Operand)} (ho : o.op = .build t ps) (hno : noRoB (zero t) = true) (h : opK o s K = some r) (hR : Rel C E Im s a w) : YdA P a E Im s w o K r := by
  simp only [opK, ho] at h
  split at h
  · rename_i l c0 l0 htd hz0
    have hz : zero t ≠ [] := by rw [hz0]; simp
    rw [← hz0, thaw_noRo _ _ _ hno] at h
    obtain ⟨zv, hzr, hzs, hzc, hza, _⟩ := info_zero (P := P) (Laws.ok (P := P) t hz)
    obtain ⟨h3, h4⟩ := zcells_rep (E := E) (nx := s.nx) (w := w) (Im := Im) hzc (noRo_ne _ hno)
    obtain ⟨cs', vs', h9, h10, h11, h12⟩ := fill_ok htd hR (fun _ _ => rfl) (Nat.le_refl _) ps.toList (zero t) _ _ h h3 h4
    obtain ⟨fs, hu, hpl⟩ := Laws.build (P := P) t l htd
    refine yda h9 (u := .agg vs'.toArray) (fun w' => ?_) ⟨vs', rfl, h10, h11⟩
    have e : (ps.map fun (p : Nat × Operand) => (p.1, a.eval p.2)).toList = ps.toList.map fun p => (p.1, a.eval p.2) := by simp
    have hpl' := hpl w'
    simp only [execOp, ho, Sem.run_bind, Instr.build, hzr, Result.andThen_ok, underlying, run_program, hu, Sem.run_pure, hpl', e]
    have h12' : Instr.fill ((l.map fun x => (x.1, x.2.1)).toArray[·]?) zv.cells (ps.toList.map fun p => (p.1, a.eval p.2)) = some vs'.toArray := by simpa using h12
    rw [h12']
    rfl
  · cases h
end
end Go.Proofs.YtnlnjcgoodgmbaaM
