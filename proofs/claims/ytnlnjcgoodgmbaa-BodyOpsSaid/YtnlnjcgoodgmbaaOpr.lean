/- How a value of a type nested in itself, that came in as data, reads as a kind: by the reading's depth. -/
import Derived.Test.YtnlnjcgoodgmbaaOpn
import Derived.Test.YtnlnjcgoodgmbaaWN
namespace Go.Proofs.YtnlnjcgoodgmbaaO
open Go.RowKit Go.Proofs.YtnlnjcgoodgmbaaW.PrintWords Go.Proofs.YtnlnjcgoodgmbaaW.PrintLast Go.Proofs.YtnlnjcgoodgmbaaW.PrintMore
set_option linter.unusedVariables false

/-- As 'Opens', for readings no deeper than m. -/
def OpensTo {α : Type} (m : Nat) (P : Program) (W : World) (t : TypeId) (k : Kd α) (ok : α → Prop) : Prop :=
  ∀ {H : Type} (enc : TypeId × Value → H) (base : Nat) (spare : Nat → Bool) (held : Bool) (fuel : Nat) (cs : List Value) (y : DataW H × List MemPlace), fuel ≤ m →
    DataW.trod enc P W base spare held fuel t cs = some y → (∀ n ∈ y.1.weights P t, n ≤ 140737488351232) → ∃ x, k.K W x cs ∧ ok x

theorem opensT_of {α : Type} {P : Program} {W : World} {t : TypeId} {k : Kd α} {ok : α → Prop} (h : Opens P W t k ok) (m : Nat) : OpensTo m P W t k ok :=
  fun enc base spare held fuel cs y _ ht hw => h enc base spare held fuel cs y ht hw

theorem opensT_less {α : Type} {P : Program} {W : World} {t : TypeId} {k : Kd α} {ok : α → Prop} {m : Nat} (h : OpensTo (m + 1) P W t k ok) : OpensTo m P W t k ok :=
  fun enc base spare held fuel cs y hf ht hw => h enc base spare held fuel cs y (Nat.le_succ_of_le hf) ht hw

theorem opensT_zero {α : Type} {P : Program} {W : World} {t : TypeId} {k : Kd α} {ok : α → Prop} : OpensTo 0 P W t k ok := by
  intro H enc base spare held fuel cs y hf ht _
  obtain rfl : fuel = 0 := by omega
  simp [DataW.trod] at ht

theorem opensT_slice {α : Type} {P : Program} {W : World} {t e : TypeId} {k : Kd α} {ok : α → Prop} {B m : Nat} (hu : P.underlying t = some (.slice e)) (hz : P.cellsOf e = k.sz) (hB : P.bytesOf e = B) (he : OpensTo m P W e k ok) :
    OpensTo (m + 1) P W t (Kd.slice e k) (fun xs => xs.length * B ≤ 140737488351232 ∧ ∀ x ∈ xs, ok x) := by
  intro H enc base spare held fuel cs y hfl h hw
  rcases DataW.trod_slice hu h with ⟨rfl, rfl⟩ | ⟨a, len, cap, elems, rest, n, hfn, rfl, rfl, hb, hl, hc, hlen, hel, _, _⟩
  · exact ⟨[], ⟨none, 0, rfl, Nat.le_refl _, rfl, by simp, fun h => absurd h (by simp)⟩, by simp, by simp⟩
  · have hwl : (elems.length + rest.length) * P.bytesOf e ≤ 140737488351232 := by
      have := hw (((elems.map (·.1)).length + (rest.map (·.1)).length) * P.bytesOf e) (by simp [DataW.weights, hu])
      simpa using this
    have hwe : ∀ (i : Nat) (y : DataW H × List MemPlace), elems[i]? = some y → ∀ n ∈ y.1.weights P e, n ≤ 140737488351232 := by
      intro i y hy n hn
      refine hw n ?_
      have := weightsAll_mem (P := P) (e := e) (ds := elems.map (·.1)) (i := i) (d := y.1) (by simp [hy]) n hn
      simp only [DataW.weights, hu, List.mem_cons, List.mem_append]
      exact .inr (.inl this)
    obtain ⟨xs, hxl, hxs⟩ := list_choose (α := α) (Q := fun i x => ∃ c, c.length = k.sz ∧ k.K W x c ∧ ok x ∧ ∀ j u, c[j]? = some u → W.cell? (a.add (i * k.sz + j)) = some u) len (by
      intro i hi
      have hf := hel i hi
      obtain ⟨y, hy⟩ : ∃ y, elems[i]? = some y := ⟨elems[i]'(by omega), List.getElem?_eq_getElem _⟩
      rw [hy] at hf
      simp only [Option.bind_eq_some_iff] at hf
      obtain ⟨c, hcc, ht⟩ := hf
      rw [hz] at hcc
      obtain ⟨hcl, hcg⟩ := cells_some hcc
      obtain ⟨x, hk, hok⟩ := he enc base spare held n c y (by omega) ht (hwe i y hy)
      refine ⟨x, c, hcl, hk, hok, fun j u hu' => ?_⟩
      have := hcg j u hu'
      rwa [addr_add_add] at this)
    subst hxl
    have hml : xs.length ≤ 9223372036854775807 := by unfold maxLen at hc; omega
    refine ⟨xs, ⟨some a, cap, rfl, hl, rfl, hml, fun _ => ⟨a, rfl, fun j p hp => ?_⟩⟩, ?_, ?_⟩
    · obtain ⟨c, h1, h2, _, h3⟩ := hxs j p hp
      exact ⟨c, h1, h2, h3⟩
    · rw [← hB]
      refine Nat.le_trans (Nat.mul_le_mul_right _ ?_) hwl
      omega
    · intro x hx
      obtain ⟨i, hi⟩ := List.getElem?_of_mem hx
      obtain ⟨c, _, _, h, _⟩ := hxs i x hi
      exact h

/-- As 'OpensFields', for readings no deeper than m. -/
def FieldsTo {α : Type} (m : Nat) (P : Program) (W : World) (off : Nat) (fs : List Field) (k : Kd α) (ok : α → Prop) : Prop :=
  ∀ {H : Type} (enc : TypeId × Value → H) (base : Nat) (spare : Nat → Bool) (held : Bool) (fuel : Nat) (cs : List Value) (xs : List (DataW H × List MemPlace)), fuel ≤ m →
    cs.length = off + k.sz → xs.length = fs.length → (∀ (i : Nat) (f : Field), fs[i]? = some f → DataW.trod enc P W base spare held fuel f.type ((cs.drop f.offset).take (P.cellsOf f.type)) = xs[i]?) →
    (∀ n ∈ DataW.weightsEach P (fs.map (·.type)) (xs.map (·.1)), n ≤ 140737488351232) → ∃ x, k.K W x (cs.drop off) ∧ ok x

theorem fieldsT_last {α : Type} {m : Nat} {P : Program} {W : World} {off : Nat} {f : Field} {k : Kd α} {ok : α → Prop} (hz : P.cellsOf f.type = k.sz) (ho : f.offset = off) (h : OpensTo m P W f.type k ok) : FieldsTo m P W off [f] k ok := by
  intro H enc base spare held fuel cs xs hfl hl hx hm hw
  match xs, hx with
  | [y], _ =>
    have hy := hm 0 f rfl
    subst ho
    rw [List.take_of_length_le (by simp; omega)] at hy
    exact h enc base spare held fuel _ y hfl hy (fun n hn => hw n (by simp [DataW.weightsEach, hn]))

theorem fieldsT_cons {α β : Type} {m : Nat} {P : Program} {W : World} {off : Nat} {f : Field} {fs : List Field} {k : Kd α} {ok : α → Prop} {k' : Kd β} {ok' : β → Prop} (hz : P.cellsOf f.type = k.sz) (ho : f.offset = off) (h : OpensTo m P W f.type k ok)
    (h' : FieldsTo m P W (off + k.sz) fs k' ok') : FieldsTo m P W off (f :: fs) (Kd.pair k k') (fun x => ok x.1 ∧ ok' x.2) := by
  intro H enc base spare held fuel cs xs hfl hl hx hm hw
  match xs, hx with
  | y :: r, hx =>
    have hy := hm 0 f rfl
    subst ho
    obtain ⟨x, hk, hok⟩ := h enc base spare held fuel _ y hfl hy (fun n hn => hw n (by simp only [List.map_cons, DataW.weightsEach, List.mem_append]; exact .inl hn))
    obtain ⟨x', hk', hok'⟩ := h' enc base spare held fuel cs r hfl (by rw [hl]; show f.offset + (k.sz + k'.sz) = f.offset + k.sz + k'.sz; omega) (by simpa using hx) (fun i g hg => hm (i + 1) g (by simpa using hg)) (fun n hn => hw n (by simp only [List.map_cons, DataW.weightsEach, List.mem_append]; exact .inr hn))
    refine ⟨(x, x'), ⟨_, _, ?_, hk, hk'⟩, hok, hok'⟩
    rw [hz, ← List.drop_drop, List.take_append_drop]

theorem opensT_struct {α : Type} {m : Nat} {P : Program} {W : World} {t : TypeId} {fs : Array Field} {k : Kd α} {ok : α → Prop} (hu : P.underlying t = some (.struct fs)) (hz : P.cellsOf t = k.sz) (h : FieldsTo m P W 0 fs.toList k ok) : OpensTo (m + 1) P W t k ok := by
  intro H enc base spare held fuel cs y hfl ht hw
  obtain ⟨xs, n, hfn, rfl, hc, hl, hf⟩ := DataW.trod_struct hu ht
  obtain ⟨x, hk, hok⟩ := h enc base spare held n cs xs (by omega) (by omega) (by simpa using hl) (fun i f h => hf i f (by simpa using h)) (fun n hn => hw n (by simp only [DataW.weights, hu]; exact hn))
  exact ⟨x, by simpa using hk, hok⟩

theorem opensT_iso {α β : Type} {m : Nat} {P : Program} {W : World} {t : TypeId} {k : Kd α} {ok : α → Prop} (h : OpensTo m P W t k ok) (f : β → α) (g : α → β) (hg : ∀ y, f (g y) = y) : OpensTo m P W t (Kd.iso k f) (fun x => ok (f x)) := by
  intro H enc base spare held fuel cs d hfl ht hw
  obtain ⟨y, hk, hok⟩ := h enc base spare held fuel cs d hfl ht hw
  exact ⟨g y, by show k.K W (f (g y)) cs; rw [hg]; exact hk, by show ok (f (g y)); rw [hg]; exact hok⟩

/-- A type nested in itself, whatever its depth. -/
theorem opens_fix {α : Type} {P : Program} {W : World} {t : TypeId} {F : Kd α → Kd α} {sz : Nat} {E : List Nat} {hs : ∀ n, (Kd.upto F sz E n).sz = sz} {hE : ∀ n q, q ∈ (Kd.upto F sz E n).E → q ∈ E} {okn : Nat → α → Prop}
    (h : ∀ m, OpensTo m P W t (Kd.upto F sz E m) (okn m)) : Opens P W t (Kd.fix F sz E hs hE) (fun x => ∃ n, okn n x) := by
  intro H enc base spare held fuel cs y ht hw
  obtain ⟨x, hk, hok⟩ := h fuel enc base spare held fuel cs y (Nat.le_refl _) ht hw
  exact ⟨x, ⟨fuel, hk⟩, ⟨fuel, hok⟩⟩

end Go.Proofs.YtnlnjcgoodgmbaaO
