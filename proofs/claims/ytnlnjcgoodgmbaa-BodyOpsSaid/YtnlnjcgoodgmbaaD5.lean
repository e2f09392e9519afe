/- THE DEN MACHINE, fifth part: each operation's answer stands for what the program does (those that change no memory). -/
import Derived.Test.YtnlnjcgoodgmbaaD4
set_option linter.unusedVariables false
set_option linter.unusedSectionVars false
namespace Go.Proofs.YtnlnjcgoodgmbaaM
open Go.RowKit Go.Proofs.YtnlnjcgoodgmbaaW.PrintWords
open Tys Tab Kds
variable [Tys] [Tab] [Kds]
section
variable {P : Program} [Laws P] {C : Ctx} {E : Nat → Value} {Im : Nat → Prop} {s : St} {a : Act} {w w' : World} {next : Act → World → Prop} {Q : Exit → Act → World → Prop} {o : Oper} {ρ : Type} {r : ρ} {K : St → Option ρ}
/-- What must be shown behind an operation. -/
def Goes (C : Ctx) (r : ρ) (K : St → Option ρ) (next : Act → World → Prop) : Prop := ∀ E' Im' s' a' w', K s' = some r → Rel C E' Im' s' a' w' → next a' w'
/-- Worlds that have all that w has. -/
def Cls (w w' : World) : Prop := Same w w' ∧ w.heap.size ≤ w'.heap.size ∧ ∀ k, k < w.heap.size → w'.heap[k]? = w.heap[k]?
theorem Cls.refl (w : World) : Cls w w := ⟨Same.refl _, Nat.le_refl _, fun _ _ => rfl⟩
/-- The same behind an operation that only makes what is new. -/
def GoesN (C : Ctx) (r : ρ) (K : St → Option ρ) (next : Act → World → Prop) (w : World) : Prop := ∀ E' Im' s' a' w', K s' = some r → Rel C E' Im' s' a' w' → Cls w w' → next a' w'
theorem Goes.toN (h : Goes C r K next) : GoesN C r K next w := fun E' Im' s' a' w' h1 h2 _ => h E' Im' s' a' w' h1 h2
theorem Cls.trans {w w1 w2 : World} (h : Cls w w1) (h' : Cls w1 w2) : Cls w w2 := ⟨Same.trans h.1 h'.1, Nat.le_trans h.2.1 h'.2.1, fun k hk => (h'.2.2 k (Nat.lt_of_lt_of_le hk h.2.1)).trans (h.2.2 k hk)⟩
theorem cls_alloc (b : Obj) : Cls w (w.alloc b) := ⟨⟨rfl, rfl, rfl⟩, (below_alloc (Below.refl w.heap.size w) b).size, fun k hk => (below_alloc (Below.refl w.heap.size w) b).block k hk⟩
theorem cls_grown {w1 : World} (hg : w.grownBy w1 none) : Cls w w1 := ⟨⟨hg.os, hg.tape, hg.output⟩, hg.size, fun k hk => hg.block k hk (fun e => by cases e)⟩
/-- An operation that only yields: one value, in every such world. -/
def Yd (P : Program) (a : Act) (E : Nat → Value) (Im : Nat → Prop) (s : St) (w : World) (o : Oper) (K : St → Option ρ) (r : ρ) : Prop := ∃ v u, K (s.put o.dst v) = some r ∧ Rep E s.nx w Im v u ∧ ∀ w', Cls w w' → (execOp a.eval o).run P w' = .ok (.value u) w'
theorem yd {v : AV} {u : Value} (hk : K (s.put o.dst v) = some r) (hrun : ∀ w', Cls w w' → (execOp a.eval o).run P w' = .ok (.value u) w') (hv : Rep E s.nx w Im v u) : Yd P a E Im s w o K r := ⟨v, u, hk, hv, hrun⟩
theorem Yd.okN (h : Yd P a E Im s w o K r) (hR : Rel C E Im s a w) (hn : GoesN C r K next w) : o.wp P a w next Q := by
  obtain ⟨v, u, hk, hv, hrun⟩ := h
  exact wp_val (hrun w (Cls.refl w)) (hn _ _ _ _ _ hk (hR.put hv) (Cls.refl w))
theorem Yd.ok (h : Yd P a E Im s w o K r) (hR : Rel C E Im s a w) (hn : Goes C r K next) : o.wp P a w next Q := h.okN hR hn.toN
/-- .. that reads no memory: the same in every world. -/
def YdA (P : Program) (a : Act) (E : Nat → Value) (Im : Nat → Prop) (s : St) (w : World) (o : Oper) (K : St → Option ρ) (r : ρ) : Prop := ∃ v u, K (s.put o.dst v) = some r ∧ Rep E s.nx w Im v u ∧ ∀ w', (execOp a.eval o).run P w' = .ok (.value u) w'
theorem yda {v : AV} {u : Value} (hk : K (s.put o.dst v) = some r) (hrun : ∀ w', (execOp a.eval o).run P w' = .ok (.value u) w') (hv : Rep E s.nx w Im v u) : YdA P a E Im s w o K r := ⟨v, u, hk, hv, hrun⟩
theorem YdA.yd (h : YdA P a E Im s w o K r) : Yd P a E Im s w o K r := by
  obtain ⟨v, u, hk, hv, hrun⟩ := h
  exact ⟨v, u, hk, hv, fun w' _ => hrun w'⟩
theorem YdA.okN (h : YdA P a E Im s w o K r) (hR : Rel C E Im s a w) (hn : GoesN C r K next w) : o.wp P a w next Q := h.yd.okN hR hn
theorem YdA.ok (h : YdA P a E Im s w o K r) (hR : Rel C E Im s a w) (hn : Goes C r K next) : o.wp P a w next Q := h.yd.ok hR hn
theorem okN_move {x : Operand} (ho : o.op = .move x ∨ o.op = .assign x) (h : opK o s K = some r) (hR : Rel C E Im s a w) (hn : GoesN C r K next w) : o.wp P a w next Q := by
  have h' : (onV (s.ev x) fun v => match v with
    | .nils => match s.bit 2 with
      | true => K (s.put o.dst .nils)
      | false => elemOf o.type fun e => K ((s.new (.row e [])).put o.dst (.own s.nx))
    | v => K (s.put o.dst v)) = some r := by rcases ho with ho | ho <;> (simp only [opK, ho] at h; exact h)
  have hrun : (execOp a.eval o).run P w = .ok (.value (a.eval x)) w := by rcases ho with ho | ho <;> (simp only [execOp, ho]; rfl)
  obtain ⟨v, hv, h2⟩ := onV_some h'
  have hr := hR.eval hv
  split at h2
  · split at h2
    · exact wp_val hrun (hn _ _ _ _ _ h2 (hR.put hr) (Cls.refl w))
    obtain ⟨e, he, h3⟩ := elemOf_some h2
    have hr2 : a.eval x = .slice none 0 0 := hr
    have hN := hR.new (w' := w) (Same.refl _) (fun _ _ => rfl) (Nat.le_refl _) (.slice none 0 0) (.row e []) (Kd.N_nil _ _ _ _ _) (fun k hk => by simp [Ob.mb, Value.ownBlock] at hk)
    exact wp_val hrun (hn _ _ _ _ _ h3 (hN.put (v := .own s.nx) ⟨Nat.lt_succ_self _, by rw [ext_self]; exact hr2, _, _, _, hr2⟩) (Cls.refl w))
  · exact wp_val hrun (hn _ _ _ _ _ h2 (hR.put hr) (Cls.refl w))
theorem ok_move {x : Operand} (ho : o.op = .move x ∨ o.op = .assign x) (h : opK o s K = some r) (hR : Rel C E Im s a w) (hn : Goes C r K next) : o.wp P a w next Q := okN_move ho h hR hn.toN
theorem y_pick {c x y : Operand} (ho : o.op = .pick c x y) (h : opK o s K = some r) (hR : Rel C E Im s a w) : YdA P a E Im s w o K r := by
  simp only [opK, ho] at h
  obtain ⟨b, p, d, hb, h2, hrep⟩ := onB_some h
  have hc := hrep _ _ _ _ _ (hR.eval hb)
  have hrun : ∀ z, (if @decide p d = true then a.eval x else a.eval y) = z → ∀ w', (execOp a.eval o).run P w' = .ok (.value z) w' := by
    intro z hz w'
    simp only [execOp, ho, hc, asBool]
    rw [← hz]
    cases @decide p d <;> rfl
  cases d with
  | isTrue hp =>
    rw [if_pos hp] at h2
    obtain ⟨v, hv, h3⟩ := onV_some h2
    exact yda h3 (fun w' => hrun _ (by simp [hp]) w') (hR.eval hv)
  | isFalse hp =>
    rw [if_neg hp] at h2
    obtain ⟨v, hv, h3⟩ := onV_some h2
    exact yda h3 (fun w' => hrun _ (by simp [hp]) w') (hR.eval hv)
theorem ok_pick {c x y : Operand} (ho : o.op = .pick c x y) (h : opK o s K = some r) (hR : Rel C E Im s a w) (hn : Goes C r K next) : o.wp P a w next Q := (y_pick ho h hR).ok hR hn
theorem cmpV_ok {op : BinOp} {b : Bool} {put : AV → Option ρ} (h : cmpV op b put = some r) : ∃ c, put (.bo c) = some r ∧ (op = .eql ∧ c = b ∨ op = .neq ∧ c = !b) := by
  unfold cmpV at h
  split at h
  · exact ⟨_, h, .inl ⟨rfl, rfl⟩⟩
  · exact ⟨_, h, .inr ⟨rfl, rfl⟩⟩
  · cases h
theorem boolOf_some {v : AV} {b : Bool} (h : boolOf v = some b) {E : Nat → Value} {nx : Nat} {w : World} {Im : Nat → Prop} {u : Value} (hr : Rep E nx w Im v u) : u = .bool b := by
  unfold boolOf at h
  split at h
  · injection h with h
    rw [← h]; exact hr
  · injection h with h
    rw [← h]; exact hr
  · cases h
theorem run_eq {t : TypeId} {ua ub : Value} {b : Bool} (h : ∀ w, (Op.equal t ua ub).run P w = .ok b w) (hi : ∀ k n, ua ≠ .int k n) (hs : ∀ s, ua ≠ .string s) (hf : ∀ k n, ua ≠ .float k n) (hc : ∀ k x y, ua ≠ .complex k x y) (w : World) :
    (binOp .eql t ua ub).run P w = .ok (.bool b) w ∧ (binOp .neq t ua ub).run P w = .ok (.bool (!b)) w := by
  constructor
  · unfold binOp
    cases ua <;> first
      | exact absurd rfl (hi _ _)
      | exact absurd rfl (hs _)
      | exact absurd rfl (hf _ _)
      | exact absurd rfl (hc _ _ _)
      | (simp only [Sem.run_bind, h, Result.andThen_ok]; rfl)
  · unfold binOp
    cases ua <;> first
      | exact absurd rfl (hi _ _)
      | exact absurd rfl (hs _)
      | exact absurd rfl (hf _ _)
      | exact absurd rfl (hc _ _ _)
      | (simp only [Sem.run_bind, h, Result.andThen_ok]; rfl)
theorem eq_deep (t : TypeId) (x y : Value) : Op.equal t x y = Op.equalIn (9999 + 1) t x y := rfl
theorem run_eqp {t e : TypeId} (hu : P.underlying t = some (.pointer e)) (b : Option Addr) (w : World) : (Op.equal t (.pointer none) (.pointer b)).run P w = .ok b.isNone w := by
  rw [eq_deep, Op.equalIn]
  simp [underlying, hu]
theorem run_eqp2 {t e : TypeId} (hu : P.underlying t = some (.pointer e)) (b : Addr) (w : World) : (Op.equal t (.pointer (some b)) (.pointer none)).run P w = .ok false w := by
  rw [eq_deep, Op.equalIn]
  simp [underlying, hu]
theorem run_eqb {t : TypeId} (hu : P.underlying t = some .bool) (a b : Bool) (w : World) : (Op.equal t (.bool a) (.bool b)).run P w = .ok (a == b) w := by
  rw [eq_deep, Op.equalIn]
  simp [underlying, hu]
theorem eqA1_rep {k : SK} {a b : AV} {c : Bool} (h : eqA1 k a b = some c) {E : Nat → Value} {nx : Nat} {w : World} {Im : Nat → Prop} {u v : Value} (ha : Rep E nx w Im a u) (hb : Rep E nx w Im b v) : eqV1 k u v = some c := by
  unfold eqA1 at h
  split at h
  · split at h
    · obtain rfl : u = _ := ha
      obtain rfl : v = _ := hb
      split at h
      · rename_i e1 _
        split at h
        · rename_i e2 _
          subst e1 e2
          simpa [eqV1] using h
        · cases h
      · cases h
    · cases h
  · split at h
    · rename_i x hx
      split at h
      · rename_i y hy
        obtain rfl := boolOf_some hx ha
        obtain rfl := boolOf_some hy hb
        exact h
      · cases h
    · cases h
  · split at h
    · obtain rfl : u = _ := ha
      obtain rfl : v = _ := hb
      exact h
    · cases h
theorem eqAs_rep {E : Nat → Value} {nx : Nat} {w : World} {Im : Nat → Prop} : ∀ {ks : List SK} {l l' : List AV} {b : Bool} {c1 c2 : List Value}, eqAs ks l l' = some b → RepL E nx w Im l c1 → RepL E nx w Im l' c2 → eqVs ks c1 c2 = some b
  | [], [], [], b, c1, c2, h, h1, h2 => by
    obtain rfl : c1 = [] := h1
    obtain rfl : c2 = [] := h2
    exact h
  | k :: ks, x :: l, y :: l', b, c1, c2, h, h1, h2 => by
    obtain ⟨u, c1', rfl, hu, h1⟩ := h1
    obtain ⟨v, c2', rfl, hv, h2⟩ := h2
    unfold eqAs at h
    split at h
    · rename_i p hp
      split at h
      · rename_i q hq
        unfold eqVs
        rw [eqA1_rep hp hu hv, eqAs_rep hq h1 h2]
        exact h
      · cases h
    · cases h
  | [], [], _ :: _, _, _, _, h, _, _ => by cases h
  | [], _ :: _, _, _, _, _, h, _, _ => by cases h
  | _ :: _, [], _, _, _, _, h, _, _ => by cases h
  | _ :: _, _ :: _, [], _, _, _, h, _, _ => by cases h
theorem eqV_ok {op : BinOp} {t : TypeId} {x y : Operand} {av bv : AV} {put : AV → Option ρ} (h : eqV op t av bv put = some r) {E : Nat → Value} {nx : Nat} {w : World} {Im : Nat → Prop} {ua ub : Value} (ha : Rep E nx w Im av ua) (hb : Rep E nx w Im bv ub) :
    ∃ v z, put v = some r ∧ (∀ w, (eqGuard op t x y ua ub).run P w = .ok () w) ∧ (∀ w, (binOp op t ua ub).run P w = .ok z w) ∧ ∀ (E : Nat → Value) nx w Im, Rep E nx w Im v z := by
  have fin : ∀ (b : Bool), cmpV op b put = some r → (∀ w, (eqGuard op t x y ua ub).run P w = .ok () w) → (∀ w, (binOp .eql t ua ub).run P w = .ok (.bool b) w ∧ (binOp .neq t ua ub).run P w = .ok (.bool (!b)) w) → ∃ v z, put v = some r ∧ (∀ w, (eqGuard op t x y ua ub).run P w = .ok () w) ∧ (∀ w, (binOp op t ua ub).run P w = .ok z w) ∧ ∀ (E : Nat → Value) nx w Im, Rep E nx w Im v z := by
    intro b h hg hr
    obtain ⟨c, h1, ⟨rfl, rfl⟩ | ⟨rfl, rfl⟩⟩ := cmpV_ok h
    · exact ⟨_, .bool c, h1, hg, fun w => (hr w).1, fun _ _ _ _ => rfl⟩
    · exact ⟨_, .bool (!b), h1, hg, fun w => (hr w).2, fun _ _ _ _ => rfl⟩
  have gp : ∀ p w, ua = .pointer p → (eqGuard op t x y ua ub).run P w = .ok () w := by
    rintro p w rfl
    unfold eqGuard
    cases op <;> rfl
  unfold eqV at h
  split at h
  · rename_i e htd
    have hu := Laws.ptr (P := P) t e htd
    split at h
    · obtain rfl : ua = .pointer none := ha
      obtain rfl : ub = .pointer none := hb
      exact fin true h (fun w => gp _ w rfl) (fun w => run_eq (fun w => run_eqp hu none w) (by simp) (by simp) (by simp) (by simp) w)
    · obtain rfl : ua = .pointer none := ha
      obtain ⟨_, g, _, rfl⟩ := hb
      exact fin false h (fun w => gp _ w rfl) (fun w => run_eq (fun w => run_eqp hu _ w) (by simp) (by simp) (by simp) (by simp) w)
    · obtain rfl : ub = .pointer none := hb
      obtain ⟨_, g, _, rfl⟩ := ha
      exact fin false h (fun w => gp _ w rfl) (fun w => run_eq (fun w => run_eqp2 hu _ w) (by simp) (by simp) (by simp) (by simp) w)
    · cases h
  · rename_i htd
    have hu := Laws.bool (P := P) t htd
    split at h
    · rename_i p hp
      split at h
      · rename_i q hq
        obtain rfl := boolOf_some hp ha
        obtain rfl := boolOf_some hq hb
        refine fin (p == q) h (fun w => ?_) (fun w => run_eq (fun w => run_eqb hu p q w) (by simp) (by simp) (by simp) (by simp) w)
        unfold eqGuard
        cases op <;> rfl
      · cases h
    · cases h
  · rename_i l0 htd
    split at h
    · rename_i l l'
      split at h
      · rename_i ks hks
        split at h
        · rename_i p hp
          obtain ⟨c1, rfl, h1, _⟩ := ha
          obtain ⟨c2, rfl, h2, _⟩ := hb
          obtain ⟨hg, he⟩ := Laws.eq (P := P) t ks hks
          have hv := eqAs_rep hp h1 h2
          refine fin p h (fun w => ?_) (fun w => run_eq (fun w => he c1 c2 p w hv) (by simp) (by simp) (by simp) (by simp) w)
          unfold eqGuard
          cases op <;> simp [hg]
        · cases h
      · cases h
    · cases h
  · cases h
theorem y_binOp {op : BinOp} {t t' : TypeId} {x y : Operand} (ho : o.op = .binOp op t x y t') (h : opK o s K = some r) (hR : Rel C E Im s a w) : YdA P a E Im s w o K r := by
  simp only [opK, ho] at h
  obtain ⟨v, hv, h2⟩ := onV_some h
  obtain ⟨u, hu, h3⟩ := onV_some h2
  have hr := hR.eval hv
  have hq := hR.eval hu
  have fin : ∀ (v : AV) (z : Value), K (s.put o.dst v) = some r → (∀ w, (eqGuard op t x y (a.eval x) (a.eval y)).run P w = .ok () w) → (∀ w, (binOp op t (a.eval x) (a.eval y)).run P w = .ok z w) → (∀ (E : Nat → Value) nx w Im, Rep E nx w Im v z) → YdA P a E Im s w o K r := by
    intro v z hk hg hb hz
    refine yda hk (fun w' => ?_) (hz _ _ _ _)
    simp only [execOp, ho, Sem.run_bind, hg, hb, Result.andThen_ok]
    rfl
  split at h3
  · rename_i k n k' m
    have e1 : a.eval x = .int k n := hr
    have e2 : a.eval y = .int k' m := hq
    have hg : ∀ w, (eqGuard op t x y (a.eval x) (a.eval y)).run P w = .ok () w := fun w => by rw [e1, e2]; exact eqGuard_int _ _ _ _ _ _ _ _ _
    have key : ∀ {op' : BinOp}, op' = op → binI op' k n m (fun v => K (s.put o.dst v)) = some r → ((op' = .shl ∨ op' = .shr) ∨ k = k') → YdA P a E Im s w o K r := by
      rintro op' rfl h4 hk
      obtain ⟨v, h5, z, h6, h7⟩ := binI_ok (P := P) h4 hk t
      exact fin v z h5 hg (by rw [e1, e2]; exact h6) h7
    split at h3
    · exact key rfl h3 (.inl (.inl rfl))
    · exact key rfl h3 (.inl (.inr rfl))
    · obtain ⟨h0, h4⟩ := ite_some h3
      exact key rfl h4 (.inr h0)
  · rename_i n m
    have e1 : a.eval x = .string n := hr
    have e2 : a.eval y = .string m := hq
    obtain ⟨v, h5, z, h6, h7⟩ := binS_ok (P := P) h3 t
    exact fin v z h5 (fun w => by rw [e1, e2]; exact eqGuard_str _ _ _ _ _ _ _) (by rw [e1, e2]; exact h6) h7
  · rename_i av bv _ _
    obtain ⟨v, z, h5, hg, h6, h7⟩ := eqV_ok (P := P) (t := t) (x := x) (y := y) h3 hr hq
    exact fin v z h5 hg h6 h7
theorem ok_binOp {op : BinOp} {t t' : TypeId} {x y : Operand} (ho : o.op = .binOp op t x y t') (h : opK o s K = some r) (hR : Rel C E Im s a w) (hn : Goes C r K next) : o.wp P a w next Q := (y_binOp ho h hR).ok hR hn
theorem evL_rep (hR : Rel C E Im s a w) : ∀ (l : List Operand) (vs : List AV), evL s l = some vs → RepL E s.nx w Im vs (l.map a.eval)
  | [], vs, h => by
    unfold evL at h
    injection h with h
    subst h
    rfl
  | x :: l, vs, h => by
    unfold evL at h
    split at h
    · rename_i v vs' hv hvs
      injection h with h
      subst h
      exact ⟨_, _, rfl, hR.eval hv, evL_rep hR l vs' hvs⟩
    · cases h
theorem y_makeFunc {f : Fn} {first caps : Array Operand} (ho : o.op = .makeFunc f first caps) (h : opK o s K = some r) (hR : Rel C E Im s a w) : YdA P a E Im s w o K r := by
  simp only [opK, ho] at h
  split at h
  · rename_i g hf
    split at h
    · rename_i vs hvs
      have hfirst : first = #[] := by rw [← Array.toList_inj]; exact hf
      refine yda h (u := .func (.func g) #[] (caps.toList.map a.eval).toArray) (fun w' => ?_) ⟨_, rfl, evL_rep hR _ _ hvs⟩
      have e : (caps.toList.map a.eval).toArray = caps.map a.eval := by
        apply Array.ext'
        simp
      simp [execOp, ho, hfirst, Instr.makeFunc, e]
    · cases h
  · rename_i g x l hf
    split at h
    · rename_i hcl
      split at h
      · rename_i vs hvs
        have hcaps : caps = #[] := by rw [← Array.toList_inj]; exact hcl
        refine yda h (u := .func (.func g) (first.toList.map a.eval).toArray #[]) (fun w' => ?_) ⟨_, rfl, by rw [hf]; exact evL_rep hR _ _ hvs⟩
        have e : (first.toList.map a.eval).toArray = first.map a.eval := by
          apply Array.ext'
          simp
        simp [execOp, ho, hcaps, Instr.makeFunc, e]
      · cases h
    · cases h
  · cases h
theorem ok_makeFunc {f : Fn} {first caps : Array Operand} (ho : o.op = .makeFunc f first caps) (h : opK o s K = some r) (hR : Rel C E Im s a w) (hn : Goes C r K next) : o.wp P a w next Q := (y_makeFunc ho h hR).ok hR hn
theorem y_makeInterface {t : TypeId} {x : Operand} (ho : o.op = .makeInterface t x) (h : opK o s K = some r) (hR : Rel C E Im s a w) : YdA P a E Im s w o K r := by
  simp only [opK, ho] at h
  have htd : td t ≠ .other := by
    intro e
    rw [e] at h
    cases h
  obtain ⟨d, hu, hd⟩ := Laws.conc (P := P) t htd
  have h2 : (onV (s.ev x) fun v => K (s.put o.dst (.ifc t v))) = some r := by
    split at h
    · rename_i e; exact absurd e htd
    · exact h
  obtain ⟨v, hv, h3⟩ := onV_some h2
  refine yda h3 (u := .iface t (a.eval x)) (fun w' => ?_) ⟨_, rfl, hR.eval hv⟩
  simp only [execOp, ho, Instr.makeInterface, Sem.run_bind, underlying, run_program, hu, Result.andThen_ok]
  cases d <;> first | exact absurd rfl (hd _) | rfl
theorem ok_makeInterface {t : TypeId} {x : Operand} (ho : o.op = .makeInterface t x) (h : opK o s K = some r) (hR : Rel C E Im s a w) (hn : Goes C r K next) : o.wp P a w next Q := (y_makeInterface ho h hR).ok hR hn
theorem y_typeAssert {x : Operand} {xt t : TypeId} {ok : Bool} (ho : o.op = .typeAssert x xt t ok) (h : opK o s K = some r) (hR : Rel C E Im s a w) : YdA P a E Im s w o K r := by
  simp only [opK, ho] at h
  have htd : td t ≠ .other := by
    intro e
    rw [e] at h
    cases h
  obtain ⟨d, hu, hd⟩ := Laws.conc (P := P) t htd
  split at h
  · cases h
  split at h
  · cases h
  obtain ⟨v, hv, h3⟩ := onV_some h
  have hr := hR.eval hv
  split at h3
  · rename_i t' v'
    split at h3
    · rename_i hb
      obtain ⟨u, e, hr'⟩ := hr
      rw [Nat.eq_of_beq_eq_true hb] at e
      refine yda h3 (u := u) (fun w' => ?_) hr'
      simp only [execOp, ho, Instr.typeAssert, Sem.run_bind, underlying, run_program, hu, Result.andThen_ok, e]
      cases d <;> first | exact absurd rfl (hd _) | simp
    · cases h3
  · cases h3
theorem ok_typeAssert {x : Operand} {xt t : TypeId} {ok : Bool} (ho : o.op = .typeAssert x xt t ok) (h : opK o s K = some r) (hR : Rel C E Im s a w) (hn : Goes C r K next) : o.wp P a w next Q := (y_typeAssert ho h hR).ok hR hn
theorem y_unOp {op : UnOp} {t : TypeId} {x : Operand} (ho : o.op = .unOp op t x) (h : opK o s K = some r) (hR : Rel C E Im s a w) : YdA P a E Im s w o K r := by
  simp only [opK, ho] at h
  obtain ⟨v, hv, h2⟩ := onV_some h
  have hr := hR.eval hv
  have fin : ∀ (v : AV) (z : Value), K (s.put o.dst v) = some r → (∀ w, (Op.unary op (a.eval x)).run P w = .ok z w) → (∀ (E : Nat → Value) nx w Im, Rep E nx w Im v z) → YdA P a E Im s w o K r := by
    intro v z hk hb hz
    refine yda hk (fun w' => ?_) (hz _ _ _ _)
    simp only [execOp, ho, Sem.run_bind, hb, Result.andThen_ok]
    rfl
  split at h2
  · rename_i p d
    have e1 : a.eval x = .bool (@decide p d) := hr
    refine fin _ (.bool (!@decide p d)) h2 (fun w => by rw [e1]; rfl) (fun _ _ _ _ => ?_)
    show Value.bool _ = Value.bool _
    congr 1
    cases d <;> rfl
  · rename_i b
    have e1 : a.eval x = .bool b := hr
    exact fin _ (.bool (!b)) h2 (fun w => by rw [e1]; rfl) (fun _ _ _ _ => rfl)
  · rename_i k n
    have e1 : a.eval x = .int k n := hr
    exact fin _ _ h2 (fun w => by rw [e1]; rfl) (fun _ _ _ _ => rfl)
  · rename_i k n
    have e1 : a.eval x = .int k n := hr
    exact fin _ _ h2 (fun w => by rw [e1]; simp only [Op.unary, Op.intBits]; rfl) (fun _ _ _ _ => rfl)
  · cases h2
theorem ok_unOp {op : UnOp} {t : TypeId} {x : Operand} (ho : o.op = .unOp op t x) (h : opK o s K = some r) (hR : Rel C E Im s a w) (hn : Goes C r K next) : o.wp P a w next Q := (y_unOp ho h hR).ok hR hn
theorem y_convert {t' t : TypeId} {x : Operand} (ho : o.op = .convert t' t x) (h : opK o s K = some r) (hR : Rel C E Im s a w) : YdA P a E Im s w o K r := by
  simp only [opK, ho] at h
  obtain ⟨v, hv, h2⟩ := onV_some h
  have hr := hR.eval hv
  split at h2
  · rename_i k' n k2 k hk2 hk
    have e1 : a.eval x = .int k' n := hr
    have hd' := Laws.int (P := P) t' k2 hk2
    have hu := Laws.int (P := P) t k hk
    refine yda h2 (u := .int k (k.wrap n)) (fun w' => ?_) rfl
    simp only [execOp, ho, Sem.run_bind, e1, convert, underlying, run_program, hu, hd', Result.andThen_ok]
    rfl
  · rename_i b hk2 hk
    have e1 : a.eval x = .string b := hr
    have hu := Laws.str (P := P) t hk
    have hd' := Laws.str (P := P) t' hk2
    refine yda h2 (u := .string b) (fun w' => ?_) rfl
    simp only [execOp, ho, Sem.run_bind, e1, convert, underlying, run_program, hu, hd', Result.andThen_ok]
    rfl
  · cases h2
theorem ok_convert {t' t : TypeId} {x : Operand} (ho : o.op = .convert t' t x) (h : opK o s K = some r) (hR : Rel C E Im s a w) (hn : Goes C r K next) : o.wp P a w next Q := (y_convert ho h hR).ok hR hn
theorem optI_some {x : Option Operand} {K : Option Int → Option ρ} (h : optI s x K = some r) (hR : Rel C E Im s a w) : (x = none ∧ K none = some r) ∨ ∃ y k n, x = some y ∧ a.eval y = .int k n ∧ K (some n) = some r := by
  unfold optI at h
  split at h
  · exact .inl ⟨rfl, h⟩
  · rename_i y
    obtain ⟨k, n, hy, h2⟩ := onI_some h
    exact .inr ⟨y, k, n, rfl, hR.eval hy, h2⟩
theorem y_index {t : TypeId} {x i : Operand} (ho : o.op = .index t x i) (h : opK o s K = some r) (hR : Rel C E Im s a w) : YdA P a E Im s w o K r := by
  simp only [opK, ho] at h
  obtain ⟨v, hv, h2⟩ := onV_some h
  obtain ⟨k, j, hi, h3⟩ := onI_some h2
  split at h3
  · rename_i b htd
    obtain ⟨h0, h1, h4⟩ := inB_some h3
    have e1 : a.eval x = .string b := hR.eval hv
    have e2 : a.eval i = .int k j := hR.eval hi
    have hu := Laws.str (P := P) t htd
    refine yda h4 (u := .int .u8 (strAt b j.toNat)) (fun w' => ?_) rfl
    have hlt : j.toNat < b.size := by omega
    have e3 : b[j.toNat]? = some (b.data.toList.getD j.toNat 0) := by
      rw [getElem?_pos b j.toNat hlt]
      congr 1
      rw [List.getD_eq_getElem?_getD, List.getElem?_eq_getElem (by simpa using hlt)]
      rfl
    simp only [execOp, ho, Sem.run_bind, Instr.index, e1, e2, asIntOf, underlying, run_program, hu, Sem.run_pure, Result.andThen_ok, if_pos h0, e3]
    rfl
  · cases h3
theorem ok_index {t : TypeId} {x i : Operand} (ho : o.op = .index t x i) (h : opK o s K = some r) (hR : Rel C E Im s a w) (hn : Goes C r K next) : o.wp P a w next Q := (y_index ho h hR).ok hR hn
theorem y_extract {x : Operand} {i : Nat} (ho : o.op = .extract x i) (h : opK o s K = some r) (hR : Rel C E Im s a w) : YdA P a E Im s w o K r := by
  simp only [opK, ho] at h
  obtain ⟨v, hv, h2⟩ := onV_some h
  have hr := hR.eval hv
  split at h2
  · rename_i l
    obtain ⟨vs, e1, hl⟩ := hr
    split at h2
    · rename_i u hu
      obtain ⟨z, hz, hrz⟩ := RepL.get hl hu
      refine yda h2 (u := z) (fun w' => ?_) hrz
      have : vs.toArray[i]? = some z := by simpa using hz
      simp only [execOp, ho, Sem.run_bind, e1, Instr.extract, this]
      rfl
    · cases h2
  · cases h2
theorem ok_extract {x : Operand} {i : Nat} (ho : o.op = .extract x i) (h : opK o s K = some r) (hR : Rel C E Im s a w) (hn : Goes C r K next) : o.wp P a w next Q := (y_extract ho h hR).ok hR hn
theorem y_nilCheck {x : Operand} (ho : o.op = .nilCheck x) (h : opK o s K = some r) (hR : Rel C E Im s a w) : YdA P a E Im s w o K r := by
  simp only [opK, ho] at h
  obtain ⟨v, hv, h2⟩ := onV_some h
  have hr := hR.eval hv
  have fin : ∀ (v : AV) (ad : Addr), K (s.put o.dst v) = some r → a.eval x = .pointer (some ad) → Rep E s.nx w Im v (a.eval x) → YdA P a E Im s w o K r := by
    intro v ad hk e hv
    refine yda hk (u := a.eval x) (fun w' => ?_) hv
    simp only [execOp, ho, e]
    rfl
  split at h2
  · obtain ⟨h1, g, h3, e⟩ := hr
    exact fin _ _ h2 e (by rw [e]; exact ⟨h1, g, h3, rfl⟩)
  · have hr2 := hr
    obtain ⟨ad, vs, e, _⟩ := hr
    exact fin _ _ h2 e hr2
  · have hr2 := hr
    obtain ⟨_, g, n, c, _, _, e⟩ := hr
    exact fin _ _ h2 e hr2
  · cases h2
theorem ok_nilCheck {x : Operand} (ho : o.op = .nilCheck x) (h : opK o s K = some r) (hR : Rel C E Im s a w) (hn : Goes C r K next) : o.wp P a w next Q := (y_nilCheck ho h hR).ok hR hn
theorem y_fieldAddr {t : TypeId} {x : Operand} {i : Nat} (ho : o.op = .fieldAddr t x i) (h : opK o s K = some r) (hR : Rel C E Im s a w) : YdA P a E Im s w o K r := by
  simp only [opK, ho] at h
  obtain ⟨v, hv, h2⟩ := onV_some h
  have hr := hR.eval hv
  obtain ⟨l, off, n, b, htd, hli, h3⟩ := fieldOf_some h2
  obtain ⟨fs, f, hu, hf, hoff, _, _, hp⟩ := Laws.struct (P := P) t l i off n b htd hli
  have fin : ∀ (v : AV) (ad : Addr), K (s.put o.dst v) = some r → a.eval x = .pointer (some ad) → Rep E s.nx w Im v (.pointer (some (ad.add off))) → YdA P a E Im s w o K r := by
    intro v ad hk e hv
    refine yda hk (u := .pointer (some (ad.add off))) (fun w' => ?_) hv
    simp only [execOp, ho, e, Sem.run_bind, Instr.fieldAt, underlying, run_program, hu, Result.andThen_ok, Sem.run_pure, hf, Instr.sureAddr, hp]
  split at h3
  · obtain ⟨h1, g, h4, e⟩ := hr
    refine fin _ _ h3 e ⟨h1, g, h4, ?_⟩
    unfold Addr.add
    split
    · rename_i e0; rw [e0]; rfl
    · rfl
  · obtain ⟨ad, vs, e, h4, h5, h6, h7⟩ := hr
    refine fin _ _ h3 e ⟨ad.add off, vs.drop off, rfl, by rw [add_block]; exact h4, fun q u hq => ?_, RepL.drop off h6, fun u hu => h7 u (List.mem_of_mem_drop hu)⟩
    rw [List.getElem?_drop] at hq
    have := h5 _ _ hq
    rwa [show (ad.add off).add q = ad.add (off + q) from by
      unfold Addr.add
      by_cases h1 : off = 0 <;> by_cases h2 : q = 0 <;> simp [h1, h2, Nat.add_assoc]]
  · obtain ⟨h1, g, n, c, h4, h5, e⟩ := hr
    refine fin _ _ h3 e ⟨h1, g, n, c, h4, h5, ?_⟩
    unfold Addr.add
    split
    · rename_i e0; rw [e0]; rfl
    · simp only [Nat.add_assoc]
  · obtain ⟨h1, g, n, h4, h5, e⟩ := hr
    refine fin _ _ h3 e ⟨h1, g, n, h4, h5, ?_⟩
    unfold Addr.add
    split
    · rename_i e0; rw [e0]; rfl
    · simp only [Nat.add_assoc]
  · cases h3
theorem ok_fieldAddr {t : TypeId} {x : Operand} {i : Nat} (ho : o.op = .fieldAddr t x i) (h : opK o s K = some r) (hR : Rel C E Im s a w) (hn : Goes C r K next) : o.wp P a w next Q := (y_fieldAddr ho h hR).ok hR hn
theorem run_part {fs : Array Field} {f : Field} {n : Nat} {b : Bool} {cs : List Value} (hd : ∃ d, P.underlying f.type = some d ∧ (match d with | .struct _ | .array _ _ => true | _ => false) = b) (hs : (P.info? f.type).map (·.size) = some n) (off : Nat) (w : World) :
    (b = true → (part f.type cs.toArray off).run P w = .ok (.agg (cs.toArray.extract off (off + n))) w) ∧ (b = false → ∀ v, cs[off]? = some v → (part f.type cs.toArray off).run P w = .ok v w) := by
  obtain ⟨d, h1, h2⟩ := hd
  have hag : (isAgg f.type).run P w = .ok b w := by
    rw [← h2]
    unfold isAgg
    cases d <;> simp [underlying, h1]
  cases hq : P.info? f.type with
  | none => simp [hq] at hs
  | some i =>
    have hs' : i.size = n := by simpa [hq] using hs
    refine ⟨fun hb => ?_, fun hb v hv => ?_⟩
    · subst hb
      simp [part, hag, sizeOf, typeInfo, hq, hs']
    · subst hb
      have : cs.toArray[off]? = some v := by simpa using hv
      simp [part, hag, this]
theorem y_field {t : TypeId} {x : Operand} {i : Nat} (ho : o.op = .field t x i) (h : opK o s K = some r) (hR : Rel C E Im s a w) : YdA P a E Im s w o K r := by
  simp only [opK, ho] at h
  obtain ⟨v, hv, h2⟩ := onV_some h
  have hr := hR.eval hv
  obtain ⟨l, off, n, b, htd, hli, h3⟩ := fieldOf_some h2
  obtain ⟨fs, f, hu, hf, hoff, hd, hs, hp⟩ := Laws.struct (P := P) t l i off n b htd hli
  split at h3
  · rename_i l'
    obtain ⟨cs, e, hl, h1⟩ := hr
    have hpart := fun w => run_part (P := P) (fs := fs) (cs := cs) hd hs off w
    have hrun : ∀ z w, (part f.type cs.toArray off).run P w = .ok z w → (execOp a.eval o).run P w = .ok (.value z) w := by
      intro z w hz
      simp only [execOp, ho, Sem.run_bind, e, Instr.field, underlying, run_program, hu, Result.andThen_ok, Sem.run_pure, hf, asAgg, hoff, hz]
    split at h3
    · refine yda h3 (fun w' => hrun _ w' ((hpart w').1 rfl)) ⟨(cs.drop off).take n, ?_, RepL.take n (RepL.drop off hl), fun u hu => h1 u (List.mem_of_mem_drop (List.mem_of_mem_take hu))⟩
      congr 1
      apply Array.ext'
      simp [List.take_drop]
    · split at h3
      · rename_i u hu2
        obtain ⟨z, hz, hrz⟩ := RepL.get hl hu2
        exact yda h3 (fun w' => hrun _ w' ((hpart w').2 rfl z hz)) hrz
      · cases h3
  · cases h3
theorem ok_field {t : TypeId} {x : Operand} {i : Nat} (ho : o.op = .field t x i) (h : opK o s K = some r) (hR : Rel C E Im s a w) (hn : Goes C r K next) : o.wp P a w next Q := (y_field ho h hR).ok hR hn
end
end Go.Proofs.YtnlnjcgoodgmbaaM
