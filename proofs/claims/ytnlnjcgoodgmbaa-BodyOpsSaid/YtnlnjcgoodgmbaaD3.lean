/- THE DEN MACHINE, third part: what a program must tell of its types; operations that change no memory. -/
import Derived.Test.YtnlnjcgoodgmbaaD2
import Derived.Laws.Sem
import Derived.Laws.Cells
import Derived.MapKept
set_option linter.unusedVariables false
set_option linter.unusedSectionVars false
namespace Go.Proofs.YtnlnjcgoodgmbaaM
open Go.RowKit Go.Proofs.YtnlnjcgoodgmbaaW.PrintWords
open Tys Tab Kds
variable [Tys] [Tab] [Kds]
/-- A zero value's cell. -/
def zcell : AV → Option Value
  | .int k n => some (.int k n)
  | .bo b => some (.bool b)
  | .str s => some (.string s)
  | .nilp => some (.pointer none)
  | .nili => some .nilIface
  | .nilf => some .nilFunc
  | .nilm => some (.map none)
  | .ro _ [] => some (.slice none 0 0)
  | _ => none
/-- What is known of a type that is told. -/
structure TOk (P : Program) (t : Nat) : Prop where
  info : ∃ (zv : Value) (b : Nat), (P.info? t).map (fun i => (i.zero, i.size, i.bytes)) = some (some zv, szOf t, b) ∧ zv.cells.size = szOf t ∧ 0 < b ∧ lim t * b ≤ 140737488355328 ∧ zv.cells.toList.map some = (zero t).map zcell ∧ (aggT t = true → ∃ c, zv = .agg c)
  desc : ∃ d, P.underlying t = some d ∧ (match d with | .struct _ | .array _ _ => true | _ => false) = aggT t
def eqV1 : SK → Value → Value → Option Bool
  | .int k, .int k1 n, .int k2 m => if k1 = k then if k2 = k then some (n == m) else none else none
  | .bool, .bool a, .bool b => some (a == b)
  | .str, .string a, .string b => some (a == b)
  | _, _, _ => none
def eqVs : List SK → List Value → List Value → Option Bool
  | [], [], [] => some true
  | k :: ks, a :: l, b :: l' => match eqV1 k a b with
    | some x => match eqVs ks l l' with
      | some y => some (x && y)
      | none => none
    | none => none
  | _, _, _ => none
/-- What a program must tell of its types. -/
class Laws (P : Program) : Prop where
  ok : ∀ t, zero t ≠ [] → TOk P t
  slice : ∀ t e, td t = .slice e → P.underlying t = some (.slice e) ∧ zero e ≠ [] ∧ (kd e).sz = szOf e
  int : ∀ t k, td t = .int k → P.underlying t = some (.int k)
  ptr : ∀ t e, td t = .ptr e → P.underlying t = some (.pointer e)
  bool : ∀ t, td t = .bool → P.underlying t = some .bool
  str : ∀ t, td t = .str → P.underlying t = some .string
  struct : ∀ (t : Nat) (l : List (Nat × Nat × Bool)) (i off n : Nat) (b : Bool), td t = .struct l → l[i]? = some (off, n, b) → ∃ fs f, P.underlying t = some (.struct fs) ∧ fs[i]? = some f ∧ f.offset = off ∧ (∃ d, P.underlying f.type = some d ∧ (match d with | .struct _ | .array _ _ => true | _ => false) = b) ∧ (P.info? f.type).map (·.size) = some n ∧ (∀ a w, (fieldPlace a f).run P w = .ok (a.add off) w)
  build : ∀ (t : Nat) (l : List (Nat × Nat × Bool)), td t = .struct l → ∃ fs : Array Field, P.underlying t = some (.struct fs) ∧ ∀ w, (fs.mapM fun f => (do pure (f.offset, ← sizeOf f.type) : Sem (Nat × Nat))).run P w = .ok (l.map fun x => (x.1, x.2.1)).toArray w
  enc : ∀ t (x : El t) c w Im E nx, zero t ≠ [] → Kd.FK (kd t) w Im x c → RepL E nx w Im (enc t x) c
  dec : ∀ t cs (x : El t) c w Im E nx, zero t ≠ [] → dec t cs = some x → RepL E nx w Im cs c → (∀ u ∈ c, u.oneCell' = true) → Kd.FK (kd t) w Im x c
  arr : ∀ t n e, td t = .array n e → P.underlying t = some (.array n e) ∧ Tab.zero e ≠ [] ∧ (kd e).sz = szOf e ∧ (∀ x, (Tab.enc e x).length = szOf e) ∧ (Tab.zero t ≠ [] → (Tab.zero t).map zcell = (flatC e (List.replicate n (z e))).map zcell) ∧ ∀ v ∈ flatC e (List.replicate n (z e)), ∀ t, v ≠ .ro t []
  meth1 : ∀ t n f, meth t n = some (f, none) → ∀ v w, (method (P.types.size + Made.depth) t v n).run P w = .ok (f, v) w
  meth2 : ∀ t n f et, meth t n = some (f, some et) → ∀ a w, (method (P.types.size + Made.depth) t (.pointer (some a)) n).run P w = ((loadVar et a).run P w).andThen (fun u w' => .ok (f, u) w')
  conc : ∀ t, td t ≠ .other → ∃ d, P.underlying t = some d ∧ ∀ ms, d ≠ .interface ms
  eq : ∀ t ks, eqT t = some ks → P.eqGuardType P.depth t = false ∧ ∀ c1 c2 b w, eqVs ks c1 c2 = some b → (Op.equal t (.agg c1.toArray) (.agg c2.toArray)).run P w = .ok b w
  map : ∀ t k e, td t = .map k e → P.underlying t = some (.map k e) ∧ Tab.zero e ≠ [] ∧ ∃ d, P.underlying k = some d ∧ ∀ (x : El k) (u : Value) E nx w Im, RepL E nx w Im (Tab.enc k x) [u] → Go.MapKept.IsKey d u ∧ ∀ (y : El k) (v : Value) E nx w Im, RepL E nx w Im (Tab.enc k y) [v] → (keq k x y = true ↔ u = v)
  mapK : ∀ t k e, td t = .map k e → ∀ cs (y : El k) (c : List Value) w Im E nx, Tab.dec k cs = some y → RepL E nx w Im cs c → (∀ u ∈ c, u.oneCell' = true) → ∀ E' nx', RepL E' nx' w Im (Tab.enc k y) c
  mapE : ∀ t k e, td t = .map k e → ∀ cs (x : El e) (c : List Value) w Im E nx, Tab.dec e cs = some x → RepL E nx w Im cs c → (∀ u ∈ c, u.oneCell' = true) → ∀ E' nx', RepL E' nx' w Im (Tab.enc e x) c
  mapZ : ∀ t k e, td t = .map k e → ∀ zv : Value, (P.info? e).map (·.zero) = some (some zv) → (∀ E nx w Im, RepL E nx w Im (Tab.enc e (z e)) zv.cells.toList) ∧ (∀ u ∈ zv.cells.toList, u.oneCell' = true) ∧ (aggT e = false → zv.cells = #[zv])
  mixed : P.follows .mixedOrders = true
  flat : ∀ t (x : El t) c w Im, flat t = true → Kd.FK (kd t) w Im x c → Kd.FK (kd t) w (fun _ => False) x c
  zero : ∀ t e w, td t = .slice e → ∀ zv : Value, (P.info? e).map (·.zero) = some (some zv) → Kd.FK (kd e) w (fun _ => False) (z e) zv.cells.toList
section
variable {P : Program} [Laws P] {C : Ctx} {E : Nat → Value} {Im : Nat → Prop} {s : St} {a : Act} {w w' : World} {next : Act → World → Prop} {Q : Exit → Act → World → Prop} {o : Oper} {ρ : Type} {r : ρ}
theorem wp_val {v : Value} (hrun : (execOp a.eval o).run P w = .ok (.value v) w') (h : next (a.put o.dst v) w') : o.wp P a w next Q := by
  unfold Oper.wp
  rw [hrun]
  exact h
theorem wp_skip' (hrun : (execOp a.eval o).run P w = .ok .skip w') (h : next (a.put o.dst undef) w') : o.wp P a w next Q := by
  unfold Oper.wp
  rw [hrun]
  exact h
theorem onV_some {v : Option AV} {K : AV → Option ρ} (h : onV v K = some r) : ∃ x, v = some x ∧ K x = some r := by
  unfold onV at h
  split at h
  · exact ⟨_, rfl, h⟩
  · cases h
theorem onI_some {v : Option AV} {K : IntKind → Int → Option ρ} (h : onI v K = some r) : ∃ k n, v = some (.int k n) ∧ K k n = some r := by
  unfold onI at h
  split at h
  · exact ⟨_, _, rfl, h⟩
  · cases h
theorem onB_some {v : Option AV} {K : (p : Prop) → Decidable p → Option ρ} (h : onB v K = some r) : ∃ (x : AV) (p : Prop) (d : Decidable p), v = some x ∧ K p d = some r ∧ ∀ (E : Nat → Value) nx w Im u, Rep E nx w Im x u → u = .bool (@decide p d) := by
  unfold onB at h
  split at h
  · exact ⟨_, _, _, rfl, h, fun _ _ _ _ _ h => h⟩
  · rename_i b
    refine ⟨_, _, _, rfl, h, fun _ _ _ _ u h => ?_⟩
    rw [show u = .bool b from h]
    cases b <;> rfl
  · cases h
theorem elemOf_some {t : Nat} {K : Nat → Option ρ} (h : elemOf t K = some r) : ∃ e, td t = .slice e ∧ K e = some r := by
  unfold elemOf at h
  split at h
  · rename_i e he
    exact ⟨e, he, h⟩
  · cases h
theorem fieldOf_some {t i : Nat} {K : Nat → Nat → Bool → Option ρ} (h : fieldOf t i K = some r) : ∃ l off n b, td t = .struct l ∧ l[i]? = some (off, n, b) ∧ K off n b = some r := by
  unfold fieldOf at h
  split at h
  · rename_i l hl
    split at h
    · rename_i off n b hi
      exact ⟨l, off, n, b, hl, hi, h⟩
    · cases h
  · cases h
theorem castR_some {t t' : Nat} {xs : List (El t)} {K : List (El t') → Option ρ} (h : castR t t' xs K = some r) : ∃ e : t = t', K (e ▸ xs) = some r := by
  unfold castR at h
  split at h
  · rename_i e _
    exact ⟨e, h⟩
  · cases h
theorem ite_some {p : Prop} {d : Decidable p} {x : Option ρ} (h : @ite _ p d x none = some r) : p ∧ x = some r := by
  cases d with
  | isTrue hp => exact ⟨hp, h⟩
  | isFalse hp => exact absurd h (by simp [ite])
theorem ite_none {p : Prop} {d : Decidable p} {x : Option ρ} (h : @ite _ p d none x = some r) : ¬ p ∧ x = some r := by
  cases d with
  | isTrue hp => exact absurd h (by simp [ite])
  | isFalse hp => exact ⟨hp, h⟩
theorem inB_some {i : Int} {n : Nat} {K : Option ρ} (h : inB i n K = some r) : 0 ≤ i ∧ i < (n : Int) ∧ K = some r := by
  unfold inB at h
  obtain ⟨h1, h⟩ := ite_some h
  obtain ⟨h2, h⟩ := ite_some h
  exact ⟨h1, h2, h⟩
/-- What an operation must show, its value's stand-in known. -/
theorem done {v : AV} {u : Value} {K : St → Option ρ} (hR : Rel C E Im s a w) (hk : K (s.put o.dst v) = some r) (hrun : (execOp a.eval o).run P w = .ok (.value u) w) (hv : Rep E s.nx w Im v u)
    (hn : ∀ E' Im' s' a' w', K s' = some r → Rel C E' Im' s' a' w' → next a' w') : o.wp P a w next Q :=
  wp_val hrun (hn _ _ _ _ _ hk (hR.put hv))
theorem run_isAgg {t : Nat} (h : TOk P t) (w : World) : (isAgg t).run P w = .ok (aggT t) w := by
  obtain ⟨d, h1, h2⟩ := h.desc
  rw [← h2]
  unfold isAgg
  cases d <;> simp [underlying, h1]
theorem cmpI_ok {op : BinOp} {x y : Int} {K : AV → Option ρ} (h : cmpI op x y K = some r) :
    ∃ v, K v = some r ∧ ∃ u, (∀ w, (Op.intCmp op x y).run P w = .ok u w) ∧ ∀ (E : Nat → Value) nx w Im, Rep E nx w Im v u := by
  unfold cmpI at h
  cases op <;> first
    | (cases h; done)
    | exact ⟨_, h, _, fun w => by simp only [Op.intCmp]; rfl, fun _ _ _ _ => by
        show Value.bool _ = Value.bool _
        congr 1 <;> (first | rfl | (by_cases e : x = y <;> simp [e]))⟩
theorem binI_ok {op : BinOp} {k k' : IntKind} {x y : Int} {K : AV → Option ρ} (h : binI op k x y K = some r) (hk : (op = .shl ∨ op = .shr) ∨ k = k') (t : TypeId) :
    ∃ v, K v = some r ∧ ∃ u, (∀ w, (binOp op t (.int k x) (.int k' y)).run P w = .ok u w) ∧ ∀ (E : Nat → Value) nx w Im, Rep E nx w Im v u := by
  unfold binI at h
  cases op
  case add | sub | mul => 
    obtain rfl : k = k' := by simpa using hk
    exact ⟨_, h, _, fun w => by simp [binOp, Op.intArith], fun _ _ _ _ => rfl⟩
  case quo | rem =>
    obtain rfl : k = k' := by simpa using hk
    obtain ⟨h0, h⟩ := ite_none h
    exact ⟨_, h, _, fun w => by simp [binOp, Op.intDiv, h0], fun _ _ _ _ => rfl⟩
  case shl | shr =>
    obtain ⟨h0, h⟩ := ite_some h
    exact ⟨_, h, _, fun w => by simp [binOp, Op.shift, Int.not_lt.2 h0], fun _ _ _ _ => rfl⟩
  case and | or | xor | andNot =>
    obtain rfl : k = k' := by simpa using hk
    exact ⟨_, h, _, fun w => by simp only [binOp, Op.intBits, ne_eq, not_true_eq_false, if_false]; rfl, fun _ _ _ _ => rfl⟩
  case eql | neq | lss | leq | gtr | geq =>
    obtain rfl : k = k' := by simpa using hk
    obtain ⟨v, h1, u, h2, h3⟩ := cmpI_ok (P := P) h
    exact ⟨v, h1, u, fun w => by simp only [binOp, ne_eq, not_true_eq_false, if_false]; exact h2 w, h3⟩
theorem binS_ok {op : BinOp} {x y : ByteArray} {K : AV → Option ρ} (h : binS op x y K = some r) (t : TypeId) :
    ∃ v, K v = some r ∧ ∃ u, (∀ w, (binOp op t (.string x) (.string y)).run P w = .ok u w) ∧ ∀ (E : Nat → Value) nx w Im, Rep E nx w Im v u := by
  unfold binS at h
  cases op <;> first
    | (cases h; done)
    | (obtain ⟨h0, h⟩ := ite_some h
       exact ⟨_, h, _, fun w => by
        have e : ¬ ((x.size + y.size : Nat) : Int) > IntKind.i64.max := by
          have : IntKind.i64.max = 9223372036854775807 := by decide
          rw [this]; omega
        simp only [binOp, Op.stringOp, e, if_false]; rfl, fun _ _ _ _ => rfl⟩)
    | exact ⟨_, h, _, fun w => by simp only [binOp, Op.stringOp]; rfl, fun _ _ _ _ => rfl⟩
theorem eqGuard_int (op : BinOp) (t : TypeId) (x y : Operand) (k k' : IntKind) (n m : Int) (w : World) : (eqGuard op t x y (.int k n) (.int k' m)).run P w = .ok () w := by
  unfold eqGuard
  cases op <;> rfl
theorem eqGuard_str (op : BinOp) (t : TypeId) (x y : Operand) (n m : ByteArray) (w : World) : (eqGuard op t x y (.string n) (.string m)).run P w = .ok () w := by
  unfold eqGuard
  cases op <;> rfl
end
end Go.Proofs.YtnlnjcgoodgmbaaM
