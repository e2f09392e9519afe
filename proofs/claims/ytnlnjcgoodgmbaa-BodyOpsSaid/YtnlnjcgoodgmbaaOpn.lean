/- How a value that came in as data reads as a kind of the printed words: kind by kind. -/
import Derived.Test.YtnlnjcgoodgmbaaWWords
import Derived.Test.YtnlnjcgoodgmbaaWLast
import Derived.Test.YtnlnjcgoodgmbaaWMore
import Derived.SizedLaws
import Derived.ChangeSlices
import Derived.ChangeArms
import Derived.WalkKit
import Derived.ProofKit
import Derived.OpenShut
import Derived.LoopN
namespace Go.Proofs.YtnlnjcgoodgmbaaO
open Go.RowKit Go.Proofs.YtnlnjcgoodgmbaaW.PrintWords Go.Proofs.YtnlnjcgoodgmbaaW.PrintLast Go.Proofs.YtnlnjcgoodgmbaaW.PrintMore
set_option linter.unusedVariables false

/-- Cells of type t that read as a datum, whose weights are within reach, are of kind k, and what they hold meets ok. -/
def Opens {α : Type} (P : Program) (W : World) (t : TypeId) (k : Kd α) (ok : α → Prop) : Prop :=
  ∀ {H : Type} (enc : TypeId × Value → H) (base : Nat) (spare : Nat → Bool) (held : Bool) (fuel : Nat) (cs : List Value) (y : DataW H × List MemPlace),
    DataW.trod enc P W base spare held fuel t cs = some y → (∀ n ∈ y.1.weights P t, n ≤ 140737488351232) → ∃ x, k.K W x cs ∧ ok x

theorem opens_int {P : Program} {W : World} {t : TypeId} {k : IntKind} (hu : P.underlying t = some (.int k)) : Opens P W t (Kd.int k) (fun n => (Lit.int k n).wf = true) := by
  intro H enc base spare held fuel cs y h _
  obtain ⟨n, rfl, rfl, hw⟩ := DataW.trod_int hu h
  exact ⟨n, rfl, hw⟩

theorem opens_bool {P : Program} {W : World} {t : TypeId} (hu : P.underlying t = some .bool) : Opens P W t Kd.bool (fun _ => True) := by
  intro H enc base spare held fuel cs y h _
  obtain ⟨n, rfl, rfl⟩ := DataW.trod_bool hu h
  exact ⟨n, rfl, trivial⟩

theorem weightsAll_mem {H : Type} {P : Program} {e : TypeId} : ∀ {ds : List (DataW H)} {i : Nat} {d : DataW H}, ds[i]? = some d → ∀ n ∈ d.weights P e, n ∈ DataW.weightsAll P e ds
  | [], i, d, h, n, hn => by simp at h
  | x :: ds, 0, d, h, n, hn => by
    simp at h
    subst h
    simp only [DataW.weightsAll, List.mem_append]
    exact .inl hn
  | x :: ds, i + 1, d, h, n, hn => by
    simp at h
    simp only [DataW.weightsAll, List.mem_append]
    exact .inr (weightsAll_mem h n hn)

theorem list_choose {α : Type} {Q : Nat → α → Prop} (n : Nat) (h : ∀ i, i < n → ∃ x, Q i x) : ∃ l : List α, l.length = n ∧ ∀ (i : Nat) (x : α), l[i]? = some x → Q i x := by
  induction n with
  | zero => exact ⟨[], rfl, fun i x h => by simp at h⟩
  | succ n ih =>
    obtain ⟨l, hl, hq⟩ := ih (fun i hi => h i (by omega))
    obtain ⟨x, hx⟩ := h n (by omega)
    refine ⟨l ++ [x], by simp [hl], fun i y hy => ?_⟩
    by_cases hi : i < n
    · rw [List.getElem?_append_left (by omega)] at hy
      exact hq i y hy
    · rw [List.getElem?_append_right (by omega)] at hy
      have hi2 : i - l.length = 0 := by
        rcases Nat.lt_or_ge (i - l.length) 1 with h' | h'
        · omega
        · rw [List.getElem?_eq_none (by simpa using h')] at hy
          cases hy
      rw [hi2] at hy
      have hn : i = n := by omega
      subst hn
      simp at hy
      subst hy
      exact hx

theorem cells_some {w : World} {base : Nat} {a : Addr} {n : Nat} {l : List Value} (h : w.cells? base a n = some l) : l.length = n ∧ ∀ i u, l[i]? = some u → w.cell? (a.add i) = some u := by
  unfold World.cells? at h
  split at h
  · refine ⟨by simpa using mapM_some_length h, fun i u hu => ?_⟩
    have hl : l.length = n := by simpa using mapM_some_length h
    have hi : i < n := by
      rcases Nat.lt_or_ge i n with h' | h'
      · exact h'
      · rw [List.getElem?_eq_none (by omega)] at hu
        cases hu
    have := mapM_some_get h i i (by simp [hi])
    rw [hu] at this
    exact this
  · cases h

theorem addr_add_add (a : Addr) (i j : Nat) : (a.add i).add j = a.add (i + j) := by
  unfold Addr.add
  by_cases hi : i = 0 <;> by_cases hj : j = 0 <;> simp [hi, hj, Nat.add_assoc]

theorem opens_slice {α : Type} {P : Program} {W : World} {t e : TypeId} {k : Kd α} {ok : α → Prop} {B : Nat} (hu : P.underlying t = some (.slice e)) (hz : P.cellsOf e = k.sz) (hB : P.bytesOf e = B) (he : Opens P W e k ok) :
    Opens P W t (Kd.slice e k) (fun xs => xs.length * B ≤ 140737488351232 ∧ ∀ x ∈ xs, ok x) := by
  intro H enc base spare held fuel cs y h hw
  rcases DataW.trod_slice hu h with ⟨rfl, rfl⟩ | ⟨a, len, cap, elems, rest, n, _, rfl, rfl, hb, hl, hc, hlen, hel, _, _⟩
  · exact ⟨[], ⟨none, 0, rfl, Nat.le_refl _, rfl, by simp, fun h => absurd h (by simp)⟩, by simp, by simp⟩
  · have hwl : (elems.length + rest.length) * P.bytesOf e ≤ 140737488351232 := by
      have := hw (((elems.map (·.1)).length + (rest.map (·.1)).length) * P.bytesOf e) (by simp [DataW.weights, hu])
      simpa using this
    have hwe : ∀ (i : Nat) (y : DataW H × List MemPlace), elems[i]? = some y → ∀ n ∈ y.1.weights P e, n ≤ 140737488351232 := by
      intro i y hy n hn
      refine hw n ?_
      have := weightsAll_mem (P := P) (e := e) (ds := elems.map (·.1)) (i := i) (d := y.1) (by simp [hy]) n hn
      simp only [DataW.weights, hu, List.mem_cons, List.mem_append]
      exact .inr (.inl this)
    obtain ⟨xs, hxl, hxs⟩ := list_choose (α := α) (Q := fun i x => ∃ c, c.length = k.sz ∧ k.K W x c ∧ ok x ∧ ∀ j u, c[j]? = some u → W.cell? (a.add (i * k.sz + j)) = some u) len (by
      intro i hi
      have hf := hel i hi
      obtain ⟨y, hy⟩ : ∃ y, elems[i]? = some y := ⟨elems[i]'(by omega), List.getElem?_eq_getElem _⟩
      rw [hy] at hf
      simp only [Option.bind_eq_some_iff] at hf
      obtain ⟨c, hcc, ht⟩ := hf
      rw [hz] at hcc
      obtain ⟨hcl, hcg⟩ := cells_some hcc
      obtain ⟨x, hk, hok⟩ := he enc base spare held n c y ht (hwe i y hy)
      refine ⟨x, c, hcl, hk, hok, fun j u hu' => ?_⟩
      have := hcg j u hu'
      rwa [addr_add_add] at this)
    subst hxl
    have hml : xs.length ≤ 9223372036854775807 := by unfold maxLen at hc; omega
    refine ⟨xs, ⟨some a, cap, rfl, hl, rfl, hml, fun _ => ⟨a, rfl, fun j p hp => ?_⟩⟩, ?_, ?_⟩
    · obtain ⟨c, h1, h2, _, h3⟩ := hxs j p hp
      exact ⟨c, h1, h2, h3⟩
    · rw [← hB]
      refine Nat.le_trans (Nat.mul_le_mul_right _ ?_) hwl
      omega
    · intro x hx
      obtain ⟨i, hi⟩ := List.getElem?_of_mem hx
      obtain ⟨c, _, _, h, _⟩ := hxs i x hi
      exact h

/-- The fields of a struct, from the one that begins at cell 'off' on. -/
def OpensFields {α : Type} (P : Program) (W : World) (off : Nat) (fs : List Field) (k : Kd α) (ok : α → Prop) : Prop :=
  ∀ {H : Type} (enc : TypeId × Value → H) (base : Nat) (spare : Nat → Bool) (held : Bool) (fuel : Nat) (cs : List Value) (xs : List (DataW H × List MemPlace)),
    cs.length = off + k.sz → xs.length = fs.length → (∀ (i : Nat) (f : Field), fs[i]? = some f → DataW.trod enc P W base spare held fuel f.type ((cs.drop f.offset).take (P.cellsOf f.type)) = xs[i]?) →
    (∀ n ∈ DataW.weightsEach P (fs.map (·.type)) (xs.map (·.1)), n ≤ 140737488351232) → ∃ x, k.K W x (cs.drop off) ∧ ok x

theorem fields_last {α : Type} {P : Program} {W : World} {off : Nat} {f : Field} {k : Kd α} {ok : α → Prop} (hz : P.cellsOf f.type = k.sz) (ho : f.offset = off) (h : Opens P W f.type k ok) : OpensFields P W off [f] k ok := by
  intro H enc base spare held fuel cs xs hl hx hm hw
  match xs, hx with
  | [y], _ =>
    have hy := hm 0 f rfl
    subst ho
    rw [List.take_of_length_le (by simp; omega)] at hy
    exact h enc base spare held fuel _ y hy (fun n hn => hw n (by simp [DataW.weightsEach, hn]))

theorem fields_cons {α β : Type} {P : Program} {W : World} {off : Nat} {f : Field} {fs : List Field} {k : Kd α} {ok : α → Prop} {k' : Kd β} {ok' : β → Prop} (hz : P.cellsOf f.type = k.sz) (ho : f.offset = off) (h : Opens P W f.type k ok)
    (h' : OpensFields P W (off + k.sz) fs k' ok') : OpensFields P W off (f :: fs) (Kd.pair k k') (fun x => ok x.1 ∧ ok' x.2) := by
  intro H enc base spare held fuel cs xs hl hx hm hw
  match xs, hx with
  | y :: r, hx =>
    have hy := hm 0 f rfl
    subst ho
    obtain ⟨x, hk, hok⟩ := h enc base spare held fuel _ y hy (fun n hn => hw n (by simp only [List.map_cons, DataW.weightsEach, List.mem_append]; exact .inl hn))
    obtain ⟨x', hk', hok'⟩ := h' enc base spare held fuel cs r (by rw [hl]; show f.offset + (k.sz + k'.sz) = f.offset + k.sz + k'.sz; omega) (by simpa using hx) (fun i g hg => hm (i + 1) g (by simpa using hg)) (fun n hn => hw n (by simp only [List.map_cons, DataW.weightsEach, List.mem_append]; exact .inr hn))
    refine ⟨(x, x'), ⟨_, _, ?_, hk, hk'⟩, hok, hok'⟩
    rw [hz, ← List.drop_drop, List.take_append_drop]

theorem opens_struct {α : Type} {P : Program} {W : World} {t : TypeId} {fs : Array Field} {k : Kd α} {ok : α → Prop} (hu : P.underlying t = some (.struct fs)) (hz : P.cellsOf t = k.sz) (h : OpensFields P W 0 fs.toList k ok) : Opens P W t k ok := by
  intro H enc base spare held fuel cs y ht hw
  obtain ⟨xs, n, _, rfl, hc, hl, hf⟩ := DataW.trod_struct hu ht
  obtain ⟨x, hk, hok⟩ := h enc base spare held n cs xs (by omega) (by simpa using hl) (fun i f h => hf i f (by simpa using h)) (fun n hn => hw n (by simp only [DataW.weights, hu]; exact hn))
  exact ⟨x, by simpa using hk, hok⟩

theorem opens_iso {α β : Type} {P : Program} {W : World} {t : TypeId} {k : Kd α} {ok : α → Prop} (h : Opens P W t k ok) (f : β → α) (g : α → β) (hg : ∀ y, f (g y) = y) : Opens P W t (Kd.iso k f) (fun x => ok (f x)) := by
  intro H enc base spare held fuel cs d ht hw
  obtain ⟨y, hk, hok⟩ := h enc base spare held fuel cs d ht hw
  exact ⟨g y, by show k.K W (f (g y)) cs; rw [hg]; exact hk, by show ok (f (g y)); rw [hg]; exact hok⟩

/-- An argument of the call: its datum's weights are within reach. -/
theorem opens_arg {α : Type} {P : Program} {W : World} {t : TypeId} {k : Kd α} {ok : α → Prop} (ho : Opens P W t k ok) {H : Type} {enc : TypeId × Value → H} {base : Nat} {spare : Nat → Bool} {held : Bool} {v : Value} {d : DataW H} {ps : List MemPlace}
    (h : DataW.Trod enc P W base spare held t v d ps) {ts : List TypeId} {ds : List (DataW H)} {j : Nat} (hsz : (DataW.weightsEach P ts ds).all (· ≤ reachBytes) = true) (ht : ts[j]? = some t) (hd : ds[j]? = some d) : ∃ x, k.K W x v.cells.toList ∧ ok x := by
  obtain ⟨fuel, hf⟩ := h
  refine ho enc base spare held fuel _ (d, ps) hf (fun n hn => ?_)
  have := List.all_eq_true.1 hsz _ (DataW.weights_mem_each ht hd n hn)
  exact of_decide_eq_true this

/-- The cells from an address on hold these values. -/
def AllCells (w : World) (a : Addr) : Nat → List Value → Prop
  | _, [] => True
  | j, v :: vs => w.cell? (a.add j) = some v ∧ AllCells w a (j + 1) vs
theorem AllCells.get {w : World} {a : Addr} : ∀ {vs : List Value} {i : Nat}, AllCells w a i vs → ∀ j v, vs[j]? = some v → w.cell? (a.add (i + j)) = some v
  | [], _, _, j, v, h => by simp at h
  | u :: us, i, hc, 0, v, h => by
    simp at h
    subst h
    exact hc.1
  | u :: us, i, hc, j + 1, v, h => by
    have := AllCells.get hc.2 j v (by simpa using h)
    rwa [show i + 1 + j = i + (j + 1) by omega] at this
end Go.Proofs.YtnlnjcgoodgmbaaO
