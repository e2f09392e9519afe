/- What the laws of poll share: copies, comparisons, the law's own first check. -/
import Derived.Test.YtiikmhomlhgobaaQRefO
set_option linter.unusedVariables false
set_option linter.unusedSimpArgs false
namespace Go.Proofs.Ytiikmhomlhgobaa.Den
open Go Go.Proofs.YtiikmhomlhgobaaM Go.HeapT
theorem take_snoc {α : Type} (z : α) (l : List α) {i : Nat} (h : i < l.length) : l.take i ++ [l.getD i z] = l.take (i + 1) := by
  rw [List.getD_eq_getElem?_getD, List.getElem?_eq_getElem h, List.take_succ_eq_append_getElem h]
  rfl
theorem copySubs {l : List api_Sub} (hl : l.length ≤ 1000) : Ev (fun k => gangwayref0_CopySubs.f k l) l := by
  have := Ev.up (G := fun k i => gangwayref0_CopySubs.go k (.s3 l (i : Int) (l.take i))) (r := l) (n := l.length) (by
    refine Ev.step ?_
    simp only [gangwayref0_CopySubs.go, List.take_length]
    exact Ev.no (by omega) Ev.ret) (fun i hi h => by
    refine Ev.step ?_
    simp only [gangwayref0_CopySubs.go, Int.toNat_natCast, take_snoc z_api_Sub l hi, w64s (show i < 9223372036854775807 by omega)]
    exact Ev.yes (by omega) (Ev.inb (by omega) (by omega) (Ev.yes (by rw [List.length_take, List.length_cons, List.length_nil]; omega) h))) 0 (Nat.zero_le _)
  exact this
theorem copyEvents {l : List api_Event} (hl : l.length ≤ 1000) : Ev (fun k => gangwayref0_CopyEvents.f k l) l := by
  have := Ev.up (G := fun k i => gangwayref0_CopyEvents.go k (.s3 l (i : Int) (l.take i))) (r := l) (n := l.length) (by
    refine Ev.step ?_
    simp only [gangwayref0_CopyEvents.go, List.take_length]
    exact Ev.no (by omega) Ev.ret) (fun i hi h => by
    refine Ev.step ?_
    simp only [gangwayref0_CopyEvents.go, Int.toNat_natCast, take_snoc z_api_Event l hi, w64s (show i < 9223372036854775807 by omega)]
    exact Ev.yes (by omega) (Ev.inb (by omega) (by omega) (Ev.yes (by rw [List.length_take, List.length_cons, List.length_nil]; omega) h))) 0 (Nat.zero_le _)
  exact this
theorem eqEvents {l : List api_Event} (hl : l.length ≤ 1000) : Ev (fun k => gangwayref0_EqEvents.f k l l) true := by
  have := Ev.up (G := fun k i => gangwayref0_EqEvents.go k (.s4 l l (i : Int))) (r := true) (n := l.length) (by
    refine Ev.step ?_
    simp only [gangwayref0_EqEvents.go]
    exact Ev.no (by omega) Ev.ret) (fun i hi h => by
    refine Ev.step ?_
    simp only [gangwayref0_EqEvents.go, w64s (show i < 9223372036854775807 by omega), beq_self_eq_true, Bool.and_self, Bool.not_true]
    exact Ev.yes (by omega) (Ev.inb (by omega) (by omega) (Ev.inb (by omega) (by omega) (Ev.no (by decide) h)))) 0 (Nat.zero_le _)
  unfold gangwayref0_EqEvents.f
  exact Ev.no (fun h => h rfl) this
theorem eqSubs {l : List api_Sub} (hl : l.length ≤ 1000) : Ev (fun k => gangwayref0_EqSubs.f k l l) true := by
  have := Ev.up (G := fun k i => gangwayref0_EqSubs.go k (.s4 l l (i : Int))) (r := true) (n := l.length) (by
    refine Ev.step ?_
    simp only [gangwayref0_EqSubs.go]
    exact Ev.no (by omega) Ev.ret) (fun i hi h => by
    refine Ev.step ?_
    simp only [gangwayref0_EqSubs.go, w64s (show i < 9223372036854775807 by omega), beq_self_eq_true, Bool.and_self, Bool.not_true]
    exact Ev.yes (by omega) (Ev.inb (by omega) (by omega) (Ev.inb (by omega) (by omega) (Ev.no (by decide) h)))) 0 (Nat.zero_le _)
  unfold gangwayref0_EqSubs.f
  exact Ev.no (fun h => h rfl) this
theorem nodup_len {α : Type} : ∀ {A B : List α}, A.Nodup → (∀ x ∈ A, x ∈ B) → A.length ≤ B.length
  | [], B, _, _ => Nat.zero_le _
  | a :: A, B, h, hs => by
    rw [List.nodup_cons] at h
    obtain ⟨s, t, rfl⟩ := List.append_of_mem (hs a List.mem_cons_self)
    have := nodup_len (A := A) (B := s ++ t) h.2 (fun x hx => by
      have h2 := hs x (List.mem_cons_of_mem _ hx)
      rw [List.mem_append, List.mem_cons] at h2
      rw [List.mem_append]
      rcases h2 with h2 | h2 | h2
      · exact .inl h2
      · subst h2; exact absurd hx h.1
      · exact .inr h2)
    rw [List.length_append] at this
    rw [List.length_append, List.length_cons, List.length_cons]
    omega
theorem ans_len {L : List api_Sub} {now : Int} {R x : List api_Event} (h : Ans L now R x) : x.length ≤ L.length := by
  obtain ⟨T, O, _, hO, rfl⟩ := h
  have hlen := clk_len (L := L) (now := now) (R := R) L.length
  have hnd : O.Nodup := List.Pairwise.imp (fun {a b} h e => by subst e; rw [alt_irr] at h; cases h) hO.1
  have : O.length ≤ (clk L now L.length).length := nodup_len hnd (fun x hx => ((hO.2 x).1 hx).1)
  rw [List.length_append, List.length_map]
  omega
theorem wakes_ok : Ev (fun k => gangwaylaw24_wakes.f k) true := by
  have hok : OkA [(⟨7, 0, 0, 3, false⟩ : api_Sub)] 5 [z_api_Event] := ⟨by omega, by simp, by simp, by simp, fun i hi => by
    have : i = 0 := by simp at hi; omega
    subst this
    show gd ⟨7, 0, 0, 3, false⟩
    decide⟩
  have hans : Ans [(⟨7, 0, 0, 3, false⟩ : api_Sub)] 5 [z_api_Event] [⟨7, 0, 0, 0⟩] := by
    refine ⟨8, [⟨8, 0⟩], .inr ⟨rfl, 8, ⟨⟨8, 0⟩, by simp [clk, isC, al, wh], rfl⟩, fun c hc => ?_, rfl⟩, ⟨List.pairwise_singleton _ _, fun x => ?_⟩, rfl⟩
    · have : c = ⟨8, 0⟩ := by simpa [clk, isC, al, wh] using hc
      rw [this]; exact Int.le_refl _
    · have e : clk [(⟨7, 0, 0, 3, false⟩ : api_Sub)] 5 [(⟨7, 0, 0, 3, false⟩ : api_Sub)].length = [⟨8, 0⟩] := by simp [clk, isC, al, wh]
      rw [e, List.mem_singleton]
      exact ⟨fun h => ⟨h, by rw [h]; exact Int.le_refl _⟩, fun h => h.1⟩
  obtain ⟨x, hx, hE⟩ := porder hok
  obtain rfl := ans_uniq hx hans
  unfold gangwaylaw24_wakes.f
  refine Ev.yes rfl (Ev.yes (by decide) (Ev.yes (by decide) ?_))
  refine Ev.bd hE ?_
  simp only [gangwaylaw24_num.f, Option.bind_some]
  exact Ev.yes (by trivial) (Ev.bd (eqEvents (by simp)) Ev.ret)
end Go.Proofs.Ytiikmhomlhgobaa.Den
