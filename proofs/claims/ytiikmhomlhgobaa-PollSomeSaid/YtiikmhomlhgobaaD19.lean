/- THE DEN MACHINE, nineteenth part: eventually: what a function comes to with rounds enough, in plain Lean. -/
import Derived.Test.YtiikmhomlhgobaaD1
set_option linter.unusedVariables false
namespace Go.Proofs.YtiikmhomlhgobaaM
section
variable {α β : Type}
/-- From some number of rounds on. -/
def Ev (g : Nat → Option α) (r : α) : Prop := ∃ n, ∀ k, n ≤ k → g k = some r
theorem Ev.cst {x : Option α} {r : α} (h : x = some r) : Ev (fun _ => x) r := ⟨0, fun _ _ => h⟩
theorem Ev.ret {r : α} : Ev (fun _ => some r) r := ⟨0, fun _ _ => rfl⟩
theorem Ev.all {g : Nat → Option α} {r : α} (h : ∀ k, g k = some r) : Ev g r := ⟨0, fun k _ => h k⟩
theorem Ev.get {g : Nat → Option α} {r : α} (h : Ev g r) : ∃ k, g k = some r := by
  obtain ⟨n, h⟩ := h
  exact ⟨n, h n (Nat.le_refl _)⟩
theorem ev_some {a r : α} : Ev (fun _ => some a) r ↔ a = r := ⟨fun ⟨n, h⟩ => Option.some.inj (h n (Nat.le_refl _)), fun h => ⟨0, fun _ _ => by rw [h]⟩⟩
theorem ev_none {r : α} : Ev (fun _ => none) r ↔ False := ⟨fun ⟨n, h⟩ => (by cases h n (Nat.le_refl _)), fun h => h.elim⟩
theorem ev_ite {c : Prop} [Decidable c] {f g : Nat → Option α} {r : α} : Ev (fun k => if c then f k else g k) r ↔ if c then Ev f r else Ev g r := by
  by_cases h : c
  · simp only [if_pos h]
  · simp only [if_neg h]
theorem ev_inB {i : Int} {n : Nat} {f : Nat → Option α} {r : α} : Ev (fun k => inB i n (f k)) r ↔ 0 ≤ i ∧ i < (n : Int) ∧ Ev f r := by
  unfold inB
  by_cases h : 0 ≤ i
  · by_cases h2 : i < (n : Int)
    · simp [h, h2]
    · simp [h, h2, ev_none]
  · simp [h, ev_none]
theorem inB_of {i : Int} {n : Nat} {x : Option α} (h0 : 0 ≤ i) (h1 : i < (n : Int)) : inB i n x = x := by
  unfold inB
  rw [if_pos h0, if_pos h1]
theorem Ev.bd {g : Nat → Option α} {f : Nat → α → Option β} {a : α} {r : β} (h : Ev g a) (k : Ev (fun n => f n a) r) : Ev (fun n => (g n).bind (f n)) r := by
  obtain ⟨n, h⟩ := h
  obtain ⟨m, k⟩ := k
  exact ⟨max n m, fun j hj => by
    show (g j).bind (f j) = some r
    rw [h j (by omega)]
    exact k j (by omega)⟩
theorem Ev.step {F : Nat → Option α} {r : α} (h : Ev (fun k => F (k + 1)) r) : Ev F r := by
  obtain ⟨n, h⟩ := h
  refine ⟨n + 1, fun k hk => ?_⟩
  have : F (k - 1 + 1) = some r := h (k - 1) (by omega)
  rwa [show k - 1 + 1 = k by omega] at this
theorem Ev.congr {f g : Nat → Option α} {r : α} (h : ∀ k, f k = g k) (e : Ev g r) : Ev f r := by
  obtain ⟨n, e⟩ := e
  exact ⟨n, fun k hk => (h k).trans (e k hk)⟩
theorem Ev.yes {c : Prop} [Decidable c] {f g : Nat → Option α} {r : α} (h : c) (e : Ev f r) : Ev (fun k => if c then f k else g k) r := ev_ite.2 (by rw [if_pos h]; exact e)
theorem Ev.no {c : Prop} [Decidable c] {f g : Nat → Option α} {r : α} (h : ¬ c) (e : Ev g r) : Ev (fun k => if c then f k else g k) r := ev_ite.2 (by rw [if_neg h]; exact e)
theorem Ev.inb {i : Int} {n : Nat} {f : Nat → Option α} {r : α} (h0 : 0 ≤ i) (h1 : i < (n : Int)) (e : Ev f r) : Ev (fun k => inB i n (f k)) r := ev_inB.2 ⟨h0, h1, e⟩
/-- A loop from i to n, one round after another. -/
theorem Ev.up {G : Nat → Nat → Option α} {r : α} {n : Nat} (fin : Ev (fun k => G k n) r) (st : ∀ i, i < n → Ev (fun k => G k (i + 1)) r → Ev (fun k => G k i) r) : ∀ i, i ≤ n → Ev (fun k => G k i) r := by
  intro i hi
  obtain ⟨d, rfl⟩ : ∃ d, n = i + d := ⟨n - i, by omega⟩
  clear hi
  induction d generalizing i with
  | zero => exact fin
  | succ d ih =>
    refine st i (by omega) (ih (i + 1) ?_ ?_)
    · rw [show i + 1 + d = i + (d + 1) by omega]; exact fin
    · intro j hj h; exact st j (by omega) h
theorem w64 {x : Int} (h0 : -9223372036854775808 ≤ x) (h1 : x ≤ 9223372036854775807) : IntKind.i64.wrap x = x := by
  rw [IntKind.wrap_i64]
  omega
theorem w64s {i : Nat} (h : i < 9223372036854775807) : IntKind.i64.wrap ((i : Int) + 1) = ((i + 1 : Nat) : Int) := by
  rw [w64 (by omega) (by omega)]
  omega
end
end Go.Proofs.YtiikmhomlhgobaaM
