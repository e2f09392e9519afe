/- THE DEN MACHINE, seventeenth part: records that can be compared. -/
import Derived.Test.YtiikmhomlhgobaaD16
import Derived.Laws.StructEq
set_option linter.unusedVariables false
set_option linter.unusedSectionVars false
namespace Go.Proofs.YtiikmhomlhgobaaM
variable [Tys] [Tab] [Kds] {P : Program}
/-- The cells of a type whose values can be compared. -/
def flatF (rec : Nat → Option (List SK)) (P : Program) : List Field → Nat → Option (List SK)
  | [], _ => some []
  | f :: fs, off => match f.name == "_" || !(Nat.beq f.offset off) with
    | true => none
    | false => match rec f.type with
      | none => none
      | some ks => match P.info? f.type with
        | none => none
        | some i => match Nat.beq i.size ks.length with
          | false => none
          | true => match flatF rec P fs (off + ks.length) with
            | none => none
            | some r => some (ks ++ r)
def flatK (P : Program) : Nat → Nat → Option (List SK)
  | 0, _ => none
  | d + 1, t => match P.underlying t with
    | some (.int k) => some [.int k]
    | some .bool => some [.bool]
    | some .string => some [.str]
    | some (.struct fs) => match P.stoodInHeld t with
      | true => none
      | false => flatF (flatK P d) P fs.toList 0
    | _ => none
theorem eqVs_len : ∀ {ks : List SK} {c1 c2 : List Value} {b : Bool}, eqVs ks c1 c2 = some b → c1.length = ks.length ∧ c2.length = ks.length
  | [], [], [], b, h => ⟨rfl, rfl⟩
  | k :: ks, x :: l, y :: l', b, h => by
    unfold eqVs at h
    split at h
    · split at h
      · rename_i hq
        obtain ⟨h1, h2⟩ := eqVs_len hq
        exact ⟨by rw [List.length_cons, List.length_cons, h1], by rw [List.length_cons, List.length_cons, h2]⟩
      · cases h
    · cases h
  | [], [], _ :: _, _, h => by cases h
  | [], _ :: _, _, _, h => by cases h
  | _ :: _, [], _, _, h => by cases h
  | _ :: _, _ :: _, [], _, h => by cases h
theorem eqVs_app : ∀ {ks rs : List SK} {c1 c2 : List Value} {b : Bool}, eqVs (ks ++ rs) c1 c2 = some b → ∃ x y, eqVs ks (c1.take ks.length) (c2.take ks.length) = some x ∧ eqVs rs (c1.drop ks.length) (c2.drop ks.length) = some y ∧ b = (x && y)
  | [], rs, c1, c2, b, h => ⟨true, b, rfl, h, by simp⟩
  | k :: ks, rs, [], c2, b, h => by cases h
  | k :: ks, rs, _ :: _, [], b, h => by cases h
  | k :: ks, rs, u :: c1, v :: c2, b, h => by
    rw [List.cons_append] at h
    unfold eqVs at h
    split at h
    · rename_i p hp
      split at h
      · rename_i q hq
        injection h with h
        obtain ⟨x, y, h1, h2, h3⟩ := eqVs_app hq
        refine ⟨p && x, y, ?_, h2, by rw [← h, h3, Bool.and_assoc]⟩
        rw [List.length_cons, List.take_succ_cons, List.take_succ_cons]
        unfold eqVs
        rw [hp, h1]
      · cases h
    · cases h
/-- What equality of a type's values comes to. -/
def Eqs (P : Program) (t : Nat) (ks : List SK) (D : Nat) : Prop := ∃ d, P.underlying t = some d ∧ ∀ c1 c2 b w, eqVs ks c1 c2 = some b →
  (aggD d = true → (Op.equalIn D t (.agg c1.toArray) (.agg c2.toArray)).run P w = .ok b w) ∧
  (aggD d = false → ks.length = 1 ∧ ∀ u v, c1 = [u] → c2 = [v] → (Op.equalIn D t u v).run P w = .ok b w)
theorem run_part0 {f : Field} {n : Nat} {b : Bool} {cs : List Value} (hd : ∃ d, P.underlying f.type = some d ∧ aggD d = b) (hs : (P.info? f.type).map (·.size) = some n) (off : Nat) (w : World) :
    (b = true → (part f.type cs.toArray off).run P w = .ok (.agg (cs.toArray.extract off (off + n))) w) ∧ (b = false → ∀ v, cs[off]? = some v → (part f.type cs.toArray off).run P w = .ok v w) := by
  obtain ⟨d, h1, h2⟩ := hd
  have hag : (isAgg f.type).run P w = .ok b w := by
    rw [← h2]
    unfold isAgg
    cases d <;> simp [underlying, h1, aggD]
  cases hq : P.info? f.type with
  | none => simp [hq] at hs
  | some i =>
    have hs' : i.size = n := by simpa [hq] using hs
    refine ⟨fun hb => ?_, fun hb v hv => ?_⟩
    · subst hb
      simp [part, hag, sizeOf, typeInfo, hq, hs']
    · subst hb
      have : cs.toArray[off]? = some v := by simpa using hv
      simp [part, hag, this]
theorem eqVs_one {k : SK} {u v : Value} {b : Bool} (h : eqVs [k] [u] [v] = some b) : eqV1 k u v = some b := by
  unfold eqVs at h
  split at h
  · rename_i p hp
    simp only [eqVs, Bool.and_true] at h
    rw [hp, h]
  · cases h
theorem eqV1_int {k : IntKind} {u v : Value} {b : Bool} (h : eqV1 (.int k) u v = some b) : ∃ n m, u = .int k n ∧ v = .int k m ∧ b = (n == m) := by
  cases u <;> first | (cases v <;> cases h; done) | skip
  cases v <;> first | (cases h; done) | skip
  rename_i k1 n k2 m
  simp only [eqV1] at h
  split at h
  · rename_i e1
    split at h
    · rename_i e2
      subst e1
      subst e2
      injection h with h
      exact ⟨n, m, rfl, rfl, h.symm⟩
    · cases h
  · cases h
theorem eqV1_bool {u v : Value} {b : Bool} (h : eqV1 .bool u v = some b) : ∃ n m, u = .bool n ∧ v = .bool m ∧ b = (n == m) := by
  cases u <;> first | (cases v <;> cases h; done) | skip
  cases v <;> first | (cases h; done) | skip
  injection h with h
  exact ⟨_, _, rfl, rfl, h.symm⟩
theorem eqV1_str {u v : Value} {b : Bool} (h : eqV1 .str u v = some b) : ∃ n m, u = .string n ∧ v = .string m ∧ b = (n == m) := by
  cases u <;> first | (cases v <;> cases h; done) | skip
  cases v <;> first | (cases h; done) | skip
  injection h with h
  exact ⟨_, _, rfl, rfl, h.symm⟩
theorem at_app {p c : List Value} {n : Nat} {u : Value} (h : p.length = n) : (p ++ u :: c)[n]? = some u := by
  subst h
  simp
theorem flatF_ok {rec : Nat → Option (List SK)} {D : Nat} (hrec : ∀ t ks, rec t = some ks → Eqs P t ks D) (w : World) : ∀ (fs : List Field) (off : Nat) (ks : List SK), flatF rec P fs off = some ks → ∀ (p1 p2 c1 c2 : List Value) (b : Bool), p1.length = off → p2.length = off → eqVs ks c1 c2 = some b →
    (Op.eqFields D (p1 ++ c1).toArray (p2 ++ c2).toArray fs).run P w = .ok b w
  | [], off, ks, h, p1, p2, c1, c2, b, h1, h2, he => by
    injection h with h
    subst h
    cases c1 with
    | nil => cases c2 with
      | nil =>
        injection he with he
        subst he
        simp [Op.eqFields]
      | cons _ _ => cases he
    | cons _ _ => cases he
  | f :: fs, off, ks, h, p1, p2, c1, c2, b, h1, h2, he => by
    unfold flatF at h
    split at h
    · cases h
    rename_i hno
    rw [Bool.or_eq_false_iff] at hno
    split at h
    · cases h
    rename_i k1 hk1
    split at h
    · cases h
    rename_i i hi
    split at h
    · cases h
    rename_i hsz
    split at h
    · cases h
    rename_i r hr
    injection h with h
    subst h
    have hoff : f.offset = off := Nat.eq_of_beq_eq_true (by simpa using hno.2)
    have hname : f.name ≠ "_" := by simpa using hno.1
    have hsize : (P.info? f.type).map (·.size) = some k1.length := by rw [hi]; simp [Nat.eq_of_beq_eq_true hsz]
    obtain ⟨x, y, hx, hy, rfl⟩ := eqVs_app he
    obtain ⟨l1, l2⟩ := eqVs_len he
    rw [List.length_append] at l1 l2
    have ih := flatF_ok hrec w fs (off + k1.length) r hr (p1 ++ c1.take k1.length) (p2 ++ c2.take k1.length) (c1.drop k1.length) (c2.drop k1.length) y (by rw [List.length_append, List.length_take]; omega) (by rw [List.length_append, List.length_take]; omega) hy
    rw [List.append_assoc, List.take_append_drop, List.append_assoc, List.take_append_drop] at ih
    obtain ⟨d, hd, hq⟩ := hrec f.type k1 hk1
    obtain ⟨hqa, hqs⟩ := hq _ _ x w hx
    have q1 := run_part0 (P := P) (f := f) (n := k1.length) (b := aggD d) (cs := p1 ++ c1) ⟨d, hd, rfl⟩ hsize off w
    have q2 := run_part0 (P := P) (f := f) (n := k1.length) (b := aggD d) (cs := p2 ++ c2) ⟨d, hd, rfl⟩ hsize off w
    have ex : ∀ p c : List Value, p.length = off → (p ++ c).toArray.extract off (off + k1.length) = (c.take k1.length).toArray := fun p c hp => by
      apply Array.ext'
      subst hp
      simp
    have key : ∃ a b', (part f.type (p1 ++ c1).toArray f.offset).run P w = .ok a w ∧ (part f.type (p2 ++ c2).toArray f.offset).run P w = .ok b' w ∧ (Op.equalIn D f.type a b').run P w = .ok x w := by
      rw [hoff]
      cases hb : aggD d with
      | true =>
        refine ⟨_, _, q1.1 hb, q2.1 hb, ?_⟩
        rw [ex p1 c1 h1, ex p2 c2 h2]
        exact hqa hb
      | false =>
        obtain ⟨hk, hq⟩ := hqs hb
        obtain ⟨u, c1', rfl⟩ : ∃ u c1', c1 = u :: c1' := by
          cases c1 with
          | nil => simp at l1; omega
          | cons u l => exact ⟨u, l, rfl⟩
        obtain ⟨v, c2', rfl⟩ : ∃ u c1', c2 = u :: c1' := by
          cases c2 with
          | nil => simp at l2; omega
          | cons u l => exact ⟨u, l, rfl⟩
        exact ⟨u, v, q1.2 hb u (at_app h1), q2.2 hb v (at_app h2), hq u v (by rw [hk]; rfl) (by rw [hk]; rfl)⟩
    obtain ⟨a, b', ha, hb, hab⟩ := key
    rw [Op.eqFields]
    simp only [if_pos hname, Sem.run_bind, ha, hb, hab, Result.andThen_ok]
    cases x
    · simp
    · simpa using ih
theorem flatK_ok : ∀ (d : Nat) (t : Nat) (ks : List SK), flatK P d t = some ks → ∀ D, d ≤ D → Eqs P t ks D
  | 0, t, ks, h, D, hD => by cases h
  | d + 1, t, ks, h, D, hD => by
    obtain ⟨D, rfl⟩ : ∃ e, D = e + 1 := ⟨D - 1, by omega⟩
    unfold flatK at h
    split at h
    · rename_i k hu
      injection h with h
      subst h
      refine ⟨_, hu, fun c1 c2 b w he => ⟨fun h => (by cases h), fun _ => ⟨rfl, fun u v e1 e2 => ?_⟩⟩⟩
      subst e1 e2
      obtain ⟨n, m, rfl, rfl, rfl⟩ := eqV1_int (eqVs_one he)
      rw [Op.equalIn]
      simp [underlying, hu]
    · rename_i hu
      injection h with h
      subst h
      refine ⟨_, hu, fun c1 c2 b w he => ⟨fun h => (by cases h), fun _ => ⟨rfl, fun u v e1 e2 => ?_⟩⟩⟩
      subst e1 e2
      obtain ⟨n, m, rfl, rfl, rfl⟩ := eqV1_bool (eqVs_one he)
      rw [Op.equalIn]
      simp [underlying, hu]
    · rename_i hu
      injection h with h
      subst h
      refine ⟨_, hu, fun c1 c2 b w he => ⟨fun h => (by cases h), fun _ => ⟨rfl, fun u v e1 e2 => ?_⟩⟩⟩
      subst e1 e2
      obtain ⟨n, m, rfl, rfl, rfl⟩ := eqV1_str (eqVs_one he)
      rw [Op.equalIn]
      simp [underlying, hu]
    · rename_i fs hu
      split at h
      · cases h
      · rename_i hst
        refine ⟨_, hu, fun c1 c2 b w he => ⟨fun _ => ?_, fun h => (by cases h)⟩⟩
        have hf : P.fieldsOf t = fs := by simp [Program.fieldsOf, hu]
        rw [run_equalIn_struct (P := P) w D t c1.toArray c2.toArray (by rw [hf]; exact hu) hst, hf]
        have := flatF_ok (P := P) (fun t ks h => flatK_ok d t ks h D (by omega)) w fs.toList 0 ks h [] [] c1 c2 b rfl rfl he
        simpa using this
    · cases h
theorem law_eq {t : Nat} {ks : List SK} (hg : P.eqGuardType P.depth t = false) (hk : flatK P 20 t = some ks) (ha : (match P.underlying t with | some d => aggD d | none => false) = true) : P.eqGuardType P.depth t = false ∧ ∀ c1 c2 b w, eqVs ks c1 c2 = some b → (Op.equal t (.agg c1.toArray) (.agg c2.toArray)).run P w = .ok b w := by
  refine ⟨hg, fun c1 c2 b w he => ?_⟩
  obtain ⟨d, hd, h⟩ := flatK_ok 20 t ks hk (9999 + 1) (by decide)
  rw [hd] at ha
  rw [eq_deep]
  exact (h c1 c2 b w he).1 ha
end Go.Proofs.YtiikmhomlhgobaaM
