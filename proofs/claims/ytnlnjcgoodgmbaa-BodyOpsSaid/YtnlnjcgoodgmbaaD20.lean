/- THE DEN MACHINE, twentieth part: element types nested in themselves. -/
import Derived.Test.YtnlnjcgoodgmbaaD15
set_option linter.unusedVariables false
set_option linter.unusedSectionVars false
namespace Go.Proofs.YtnlnjcgoodgmbaaM
open Go.RowKit Go.Proofs.YtnlnjcgoodgmbaaW.PrintWords
open Tys Tab Kds
namespace Kdx
open Kd
section
variable {α : Type} {F : Kd α → Kd α} {sz : Nat} {E : List Nat}
theorem upto_K (hm : Mono F) (hs : ∀ n, (Kd.upto F sz E n).sz = sz) : ∀ n {w x cs}, (Kd.upto F sz E n).K w x cs → (Kd.upto F sz E (n + 1)).K w x cs
  | 0, _, _, _, h => h.elim
  | n + 1, _, _, _, h => hm.K _ _ (by rw [hs n, hs (n + 1)]) (fun _ _ _ hk => upto_K hm hs n hk) _ _ _ h
theorem upto_K_le (hm : Mono F) (hs : ∀ n, (Kd.upto F sz E n).sz = sz) {n m : Nat} (hnm : n ≤ m) {w x cs} (h : (Kd.upto F sz E n).K w x cs) : (Kd.upto F sz E m).K w x cs := by
  obtain ⟨j, rfl⟩ := Nat.exists_eq_add_of_le hnm
  induction j with
  | zero => exact h
  | succ j ih => exact upto_K hm hs _ (ih (by omega))
theorem bounded {P : Nat → Nat → Prop} (hP : ∀ n m j, n ≤ m → P n j → P m j) : ∀ m, (∀ j, j < m → ∃ n, P n j) → ∃ N, ∀ j, j < m → P N j
  | 0, _ => ⟨0, fun j hj => absurd hj (Nat.not_lt_zero j)⟩
  | m + 1, h => by
    obtain ⟨N, hN⟩ := bounded hP m (fun j hj => h j (by omega))
    obtain ⟨n, hn⟩ := h m (by omega)
    refine ⟨max N n, fun j hj => ?_⟩
    rcases Nat.lt_or_ge j m with hj' | hj'
    · exact hP N _ j (Nat.le_max_left _ _) (hN j hj')
    · have : j = m := by omega
      subst this
      exact hP n _ j (Nat.le_max_right _ _) hn
theorem reads_bounded {β : Type} {R : Nat → β → List Value → Prop} (hR : ∀ n m p c, n ≤ m → R n p c → R m p c) {size : Nat} {w : World} {A : Option Addr} {n : Nat} {ps : List β} (h : ReadsRow (fun p c => ∃ N, R N p c) size w A n ps) : ∃ N, ReadsRow (R N) size w A n ps := by
  obtain ⟨h1, h2, h3⟩ := h
  rcases Nat.eq_zero_or_pos n with h0 | h0
  · exact ⟨0, h1, h2, fun hn => absurd hn (by omega)⟩
  obtain ⟨ad, hA, hc⟩ := h3 h0
  obtain ⟨N, hN⟩ := bounded (P := fun N j => ∀ p, ps[j]? = some p → ∃ c, c.length = size ∧ R N p c ∧ ∀ i u, c[i]? = some u → w.cell? (ad.add (j * size + i)) = some u)
    (fun n m j hnm hp p hj => by
      obtain ⟨c, h4, h5, h6⟩ := hp p hj
      exact ⟨c, h4, hR n m p c hnm h5, h6⟩) ps.length
    (fun j hj => by
      obtain ⟨c, h4, ⟨N, h5⟩, h6⟩ := hc j _ (List.getElem?_eq_getElem hj)
      refine ⟨N, fun p hp => ?_⟩
      rw [List.getElem?_eq_getElem hj] at hp
      injection hp with hp
      rw [← hp]
      exact ⟨c, h4, h5, h6⟩)
  exact ⟨N, h1, h2, fun _ => ⟨ad, hA, fun j p hj => hN j (List.getElem?_eq_some_iff.1 hj).1 p hj⟩⟩
/-- What is said of the whole is said of one of its steps. -/
def Con {β : Type} (F : Kd α → Kd α) (sz : Nat) (E : List Nat) (hs : ∀ n, (Kd.upto F sz E n).sz = sz) (hE : ∀ n q, q ∈ (Kd.upto F sz E n).E → q ∈ E) (G : Kd α → Kd β) : Prop := ∀ w x cs, (G (fix F sz E hs hE)).K w x cs → ∃ n, (G (Kd.upto F sz E n)).K w x cs
variable {hs : ∀ n, (Kd.upto F sz E n).sz = sz} {hE : ∀ n q, q ∈ (Kd.upto F sz E n).E → q ∈ E} {β γ : Type}
theorem le_K (hs : ∀ n, (Kd.upto F sz E n).sz = sz) (hm : Mono F) {G : Kd α → Kd β} (hG : Mono G) {n m : Nat} (hnm : n ≤ m) {w x cs} (h : (G (Kd.upto F sz E n)).K w x cs) : (G (Kd.upto F sz E m)).K w x cs := by
  exact hG.K _ _ (by rw [hs n, hs m]) (fun _ _ _ hk => upto_K_le hm hs hnm hk) _ _ _ h
theorem con_const (k : Kd β) : Con F sz E hs hE (fun _ => k) := fun w x cs h => ⟨0, h⟩
theorem con_id : Con F sz E hs hE (fun d => d) := fun w x cs h => h
theorem con_iso {G : Kd α → Kd β} (f : γ → β) (hG : Con F sz E hs hE G) : Con F sz E hs hE (fun d => iso (G d) f) := fun w x cs h => hG w (f x) cs h
theorem con_pair (hm : Mono F) {G : Kd α → Kd β} {H : Kd α → Kd γ} (mG : Mono G) (mH : Mono H) (hG : Con F sz E hs hE G) (hH : Con F sz E hs hE H) : Con F sz E hs hE (fun d => pair (G d) (H d)) := by
  rintro w x cs ⟨c0, c1, rfl, h0, h1⟩
  obtain ⟨n, hn⟩ := hG w _ _ h0
  obtain ⟨m, hm'⟩ := hH w _ _ h1
  exact ⟨max n m, c0, c1, rfl, le_K hs hm mG (Nat.le_max_left _ _) hn, le_K hs hm mH (Nat.le_max_right _ _) hm'⟩
theorem con_slice (hm : Mono F) {G : Kd α → Kd β} (e : Nat) (mG : Mono G) (hG : Con F sz E hs hE G) : Con F sz E hs hE (fun d => slice e (G d)) := by
  rintro w x cs ⟨A, c, rfl, hl, hr⟩
  have h1 : ReadsRow (fun p c => ∃ N, (G (Kd.upto F sz E N)).K w p c) (G (fix F sz E hs hE)).sz w A x.length x := by
    have h2 : ReadsRow ((G (fix F sz E hs hE)).K w) (G (fix F sz E hs hE)).sz w A x.length x := hr
    exact h2.imp_ (Below.refl _ _) (fun p c hp => hG w p c hp)
  obtain ⟨N, hN⟩ := reads_bounded (R := fun N p c => (G (Kd.upto F sz E N)).K w p c) (fun n m p c hnm h => le_K hs hm mG hnm h) h1
  refine ⟨N, A, c, rfl, hl, ?_⟩
  show ReadsRow ((G (Kd.upto F sz E N)).K w) (G (Kd.upto F sz E N)).sz w A x.length x
  rw [show (G (Kd.upto F sz E N)).sz = (G (fix F sz E hs hE)).sz from mG.sz _ _ (hs N)]
  exact hN
theorem fix_open (hm : Mono F) {w : World} {x : α} {cs : List Value} (h : (fix F sz E hs hE).K w x cs) : (F (fix F sz E hs hE)).K w x cs := by
  obtain ⟨n, hn⟩ := h
  cases n with
  | zero => exact hn.elim
  | succ n => exact hm.K _ _ (hs n) (fun w x cs hk => (⟨n, hk⟩ : ∃ n, (Kd.upto F sz E n).K w x cs)) _ _ _ hn
theorem fix_close (hc : Con F sz E hs hE F) {w : World} {x : α} {cs : List Value} (h : (F (fix F sz E hs hE)).K w x cs) : (fix F sz E hs hE).K w x cs := by
  obtain ⟨n, hn⟩ := hc w x cs h
  exact ⟨n + 1, hn⟩
theorem sub_by {k : Kd β} (h : (k.E.all fun q => E.contains q) = true) : Sub (fun _ : Kd α => k) E := sub_const k (fun q hq => by simpa using List.all_eq_true.1 h q hq)
end
end Kdx
namespace Cod
variable [Tys]
/-- A type's values, by another way to say how they stand. -/
def refix {α : Type} (d : Kd α) (c : Cod α) : Cod α where
  kd := d
  enc := c.enc
  dec := c.dec
  z := c.z
  zv := c.zv
  zero := c.zero
  flat := c.flat
  keq := c.keq
variable [Tab] [Kds]
theorem refix_ok {α : Type} {d : Kd α} {c : Cod α} (hc : c.Ok) (h1 : ∀ w x cs, d.K w x cs → c.kd.K w x cs) (h2 : ∀ w x cs, c.kd.K w x cs → d.K w x cs) : (refix d c).Ok where
  enc x cs w Im E nx h := hc.enc x cs w Im E nx (fun W' hW => h1 _ _ _ (h W' hW))
  dec cs x c' w Im E nx h hr ho := fun W' hW => h2 _ _ _ (hc.dec cs x c' w Im E nx h hr ho W' hW)
  flat x cs w Im hf h := fun W' hW => h2 _ _ _ (hc.flat x cs w Im hf (fun W' hW => h1 _ _ _ (h W' hW)) W' hW)
theorem refix_z {α : Type} {d : Kd α} {c : Cod α} (hz : c.Z) (h2 : ∀ w x cs, c.kd.K w x cs → d.K w x cs) : (refix d c).Z := ⟨fun w W' hW => h2 _ _ _ (hz.zero w W' hW)⟩
end Cod
end Go.Proofs.YtnlnjcgoodgmbaaM
