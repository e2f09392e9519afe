/- The program's answer and the reference's, each an answer as it must be. -/
import Derived.Test.YtiikmhomlhgobaaQOrder
set_option linter.unusedVariables false
set_option linter.unusedSimpArgs false
namespace Go.Proofs.Ytiikmhomlhgobaa.Den
open Go Go.Proofs.YtiikmhomlhgobaaM Go.HeapT
section
variable {L : List api_Sub} {now : Int} {R : List api_Event}
theorem top_mem {H : List poll_alarm} (h : 0 < H.length) : H.getD 0 z_poll_alarm ∈ H := by
  rw [List.getD_eq_getElem?_getD, List.getElem?_eq_getElem h]
  exact List.getElem_mem h
theorem hp_all {H : List poll_alarm} (h : Hp alt z_poll_alarm H H.length) {x : poll_alarm} (hx : x ∈ H) : alt x (H.getD 0 z_poll_alarm) = false := by
  obtain ⟨i, hi, rfl⟩ := List.getElem_of_mem hx
  have := hp_min alt1 alt2 h i hi
  rwa [List.getD_eq_getElem?_getD, List.getElem?_eq_getElem hi] at this
/-- What is popped till T. -/
theorem drain {T : Int} {C : List poll_alarm} (hat : ∀ c ∈ C, 0 ≤ c.at_ ∧ c.at_ < (L.length : Int)) (X : List api_Event) (hX : X.length ≤ 1000) : ∀ (n : Nat) (H P : List poll_alarm), H.length = n → n + P.length ≤ 1000 → Hp alt z_poll_alarm H H.length → (∀ x, x ∈ C ↔ x ∈ P ∨ x ∈ H) → H.Nodup → P.Pairwise (fun a b => alt a b = true) → (∀ p ∈ P, ∀ x ∈ H, alt p x = true) → (∀ p ∈ P, p.when_ ≤ T) →
    ∃ O, Drained C T O ∧ Ev (fun k => poll_Order.go k (.s17 L T (X ++ P.map (evt L)) H)) (0, X ++ O.map (evt L)) := by
  intro n
  induction n with
  | zero =>
    intro H P hn hc hh h1 h2 h3 h4 h5
    have : H = [] := List.eq_nil_of_length_eq_zero hn
    subst this
    refine ⟨P, ⟨h3, fun x => ⟨fun hx => ⟨(h1 x).2 (.inl hx), h5 x hx⟩, fun hx => ?_⟩⟩, Ev.step ?_⟩
    · rcases (h1 x).1 hx.1 with h | h
      · exact h
      · cases h
    · simp only [poll_Order.go, poll_alarms_Len.f, Option.bind_some]
      exact Ev.no (by decide) Ev.ret
  | succ n ih =>
    intro H P hn hc hh h1 h2 h3 h4 h5
    have hpos : 0 < H.length := by omega
    obtain ⟨t, ht⟩ : ∃ t, t = H.getD 0 z_poll_alarm := ⟨_, rfl⟩
    have htm : t ∈ H := by rw [ht]; exact top_mem hpos
    have hin : ∀ (x : Option (Int × List api_Event)), inB (0 : Int) H.length x = x := fun x => inB_of (by omega) (by omega)
    by_cases hT : t.when_ ≤ T
    · have hp := hrest_perm (lt := alt) (z := z_poll_alarm) hpos
      rw [← ht] at hp
      have hnd := hp.nodup_iff.1 h2
      rw [List.nodup_cons] at hnd
      have hmem : ∀ x, x ∈ H ↔ x = t ∨ x ∈ hrest alt z_poll_alarm H := fun x => by rw [hp.mem_iff, List.mem_cons]
      have hlt : ∀ x ∈ hrest alt z_poll_alarm H, alt t x = true := fun x hx => by
        have hxH := (hmem x).2 (.inr hx)
        have h6 := hp_all hh hxH
        rw [← ht] at h6
        cases h7 : alt t x with
        | true => rfl
        | false =>
          have := alt_tot h7 h6
          rw [this] at hnd
          exact absurd hx hnd.1
      obtain ⟨O, hO, hE⟩ := ih (hrest alt z_poll_alarm H) (P ++ [t]) (by rw [hrest_len]; omega) (by rw [List.length_append, List.length_cons, List.length_nil]; omega) (hrest_heap alt1 alt2 hh)
        (fun x => by
          rw [h1 x, hmem x, List.mem_append, List.mem_singleton]
          constructor
          · rintro (h | h | h)
            · exact .inl (.inl h)
            · exact .inl (.inr h)
            · exact .inr h
          · rintro ((h | h) | h)
            · exact .inl h
            · exact .inr (.inl h)
            · exact .inr (.inr h)) hnd.2
        (List.pairwise_append.2 ⟨h3, List.pairwise_singleton _ _, fun a ha b hb => by rw [List.mem_singleton.1 hb]; exact h4 a ha t htm⟩)
        (fun p hp' x hx => by
          rcases List.mem_append.1 hp' with h | h
          · exact h4 p h x ((hmem x).2 (.inr hx))
          · rw [List.mem_singleton.1 h]; exact hlt x hx)
        (fun p hp' => by
          rcases List.mem_append.1 hp' with h | h
          · exact h5 p h
          · rw [List.mem_singleton.1 h]; exact hT)
      refine ⟨O, hO, Ev.step ?_⟩
      obtain ⟨a1, a2⟩ := hat t ((h1 t).2 (.inr htm))
      simp only [poll_Order.go, poll_alarms_Len.f, Option.bind_some, hin]
      refine Ev.yes (by show (H.length : Int) > 0; omega) ?_
      refine Ev.yes (by show (H.getD (0 : Int).toNat z_poll_alarm).when_ ≤ T; rw [show (0 : Int).toNat = 0 from rfl, ← ht]; exact hT) ?_
      refine Ev.bd (pop_ok H hpos (by omega)) ?_
      rw [← ht]
      refine Ev.inb a1 a2 ?_
      refine Ev.yes (by rw [List.length_append, List.length_map, List.length_cons, List.length_nil]; omega) ?_
      rw [show X ++ P.map (evt L) ++ [(⟨(L.getD t.at_.toNat z_api_Sub).User, 0, 0, 0⟩ : api_Event)] = X ++ (P ++ [t]).map (evt L) by rw [List.map_append, List.append_assoc]; rfl]
      exact hE
    · refine ⟨P, ⟨h3, fun x => ⟨fun hx => ⟨(h1 x).2 (.inl hx), h5 x hx⟩, fun hx => ?_⟩⟩, Ev.step ?_⟩
      · rcases (h1 x).1 hx.1 with h | h
        · exact h
        · have h6 := hp_all hh h
          rw [← ht, alt_f] at h6
          have := hx.2
          omega
      · simp only [poll_Order.go, poll_alarms_Len.f, Option.bind_some, hin]
        refine Ev.yes (by show (H.length : Int) > 0; omega) (Ev.no ?_ Ev.ret)
        rw [show (0 : Int).toNat = 0 from rfl, ← ht]
        exact hT
theorem clk_at {i : Nat} (hi : i ≤ L.length) : ∀ c ∈ clk L now i, 0 ≤ c.at_ ∧ c.at_ < (L.length : Int) := fun c hc => by
  obtain ⟨j, h1, _, rfl⟩ := mem_clk.1 hc
  show 0 ≤ (j : Int) ∧ (j : Int) < _
  omega
theorem wh_bd (h : OkA L now R) {j : Nat} (hj : j < L.length) : 0 ≤ wh (L.getD j z_api_Sub) now ∧ wh (L.getD j z_api_Sub) now ≤ 2251799813685248 := by
  obtain ⟨h1, h2⟩ := (h.2.2.2.2 j hj).2.2
  have := h.1
  unfold wh
  split <;> omega
theorem porder_loop (h : OkA L now R) : ∀ (d i : Nat) (H : List poll_alarm), i + d = L.length → H.Perm (clk L now i) → Hp alt z_poll_alarm H H.length → ∃ x, Ans L now R x ∧ Ev (fun k => poll_Order.go k (.s6 L now R L (L.length : Int) (i : Int) (fdl L R i) H)) (0, x)
  | 0, i, H, hi, hH, hh => by
    have hi : i = L.length := by omega
    subst hi
    have hlen := clk_len (L := L) (now := now) (R := R) L.length
    have hl2 := h.2.2.1
    have hHl := hH.length_eq
    have key : ∀ T, Lim L now R T → ∃ x, Ans L now R x ∧ Ev (fun k => poll_Order.go k (.s17 L T (fdl L R L.length) H)) (0, x) := fun T hT => by
      obtain ⟨O, hO, hE⟩ := drain (L := L) (T := T) (clk_at (now := now) (Nat.le_refl _)) (fdl L R L.length) (by omega) H.length H [] rfl (by simp; omega) hh (fun x => by rw [hH.mem_iff]; simp) (hH.nodup_iff.2 (clk_nodup _)) List.Pairwise.nil (fun p hp => by cases hp) (fun p hp => by cases hp)
      refine ⟨_, ⟨T, O, hT, hO, rfl⟩, ?_⟩
      rw [List.map_nil, List.append_nil] at hE
      exact hE
    by_cases hf : fdl L R L.length = []
    · have hpos : 0 < H.length := by
        have h0 : (fdl L R L.length).length = 0 := by rw [hf]; rfl
        have := h.2.1
        omega
      obtain ⟨x, hx, hE⟩ := key (if now < (H.getD 0 z_poll_alarm).when_ then (H.getD 0 z_poll_alarm).when_ else now) (.inr ⟨hf, (H.getD 0 z_poll_alarm).when_, ⟨_, hH.mem_iff.1 (top_mem hpos), rfl⟩, fun c hc => by
        have := hp_all hh (hH.mem_iff.2 hc)
        rw [alt_f] at this
        omega, rfl⟩)
      refine ⟨x, hx, Ev.step ?_⟩
      simp only [poll_Order.go]
      refine Ev.no (by omega) (Ev.yes (by rw [hf]; rfl) (Ev.inb (by omega) (by omega) ?_))
      exact hE
    · obtain ⟨x, hx, hE⟩ := key now (.inl ⟨hf, rfl⟩)
      refine ⟨x, hx, Ev.step ?_⟩
      simp only [poll_Order.go]
      refine Ev.no (by omega) (Ev.no (fun e => hf (List.eq_nil_of_length_eq_zero (by omega))) ?_)
      exact hE
  | d + 1, i, H, hi, hH, hh => by
    have hl2 := h.2.2.1
    have hlen := clk_len (L := L) (now := now) (R := R) i
    have hHl := hH.length_eq
    have hin : ∀ (x : Option (Int × List api_Event)), inB (i : Int) L.length x = x := fun x => inB_of (by omega) (by omega)
    have hinR : ∀ (x : Option (Int × List api_Event)), inB (i : Int) R.length x = x := fun x => inB_of (by omega) (by rw [h.2.2.2.1]; omega)
    have step : (L.getD i z_api_Sub).Kind = 0 → ∃ x, Ans L now R x ∧ Ev (fun k => poll_Order.go k (.s6 L now R L (L.length : Int) ((i + 1 : Nat) : Int) (fdl L R i) (hpush alt z_poll_alarm H (al L now i)))) (0, x) := fun hK => by
      obtain ⟨e1, e2⟩ := clk_yes (now := now) (R := R) hK
      rw [← e2]
      refine porder_loop h d (i + 1) _ (by omega) ?_ (hpush_heap alt1 alt2 H _ hh)
      rw [e1]
      exact (hpush_perm _ _).trans (hH.append_right _)
    by_cases hK : (L.getD i z_api_Sub).Kind = 0
    · obtain ⟨x, hx, hE⟩ := step hK
      refine ⟨x, hx, Ev.step ?_⟩
      have hb := wh_bd h (show i < L.length by omega)
      have hn := h.1
      simp only [poll_Order.go, hin, Int.toNat_natCast, w64s (show i < 9223372036854775807 by omega)]
      refine Ev.yes (by omega) (Ev.no (fun hc => hc hK) ?_)
      by_cases hA : (L.getD i z_api_Sub).Abs = true
      · refine Ev.yes hA ?_
        have e : wh (L.getD i z_api_Sub) now = (L.getD i z_api_Sub).Timeout := if_pos hA
        refine Ev.bd (push_ok H _ _ (by omega)) ?_
        rw [← e]
        exact hE
      · refine Ev.no hA ?_
        have e : wh (L.getD i z_api_Sub) now = now + (L.getD i z_api_Sub).Timeout := if_neg hA
        have e2 : IntKind.i64.wrap (now + (L.getD i z_api_Sub).Timeout) = wh (L.getD i z_api_Sub) now := by rw [← e, w64 (by omega) (by omega)]
        simp only [e2]
        refine Ev.bd (push_ok H _ _ (by omega)) ?_
        exact hE
    · obtain ⟨e1, e2⟩ := clk_no (now := now) (R := R) hK
      obtain ⟨x, hx, hE⟩ := porder_loop h d (i + 1) H (by omega) (by rw [e1]; exact hH) hh
      refine ⟨x, hx, Ev.step ?_⟩
      simp only [poll_Order.go, hin, hinR, Int.toNat_natCast, w64s (show i < 9223372036854775807 by omega)]
      refine Ev.yes (by omega) (Ev.yes hK (Ev.yes (by rw [List.length_cons, List.length_nil]; omega) ?_))
      rw [e2] at hE
      exact hE
/-- The program's answer. -/
theorem porder (h : OkA L now R) : ∃ x, Ans L now R x ∧ Ev (fun k => poll_Order.f k L now R) (0, x) := by
  obtain ⟨b, h1, h2⟩ := pmay (L := L) (now := now) (R := R) (by have := h.2.2.1; omega)
  obtain rfl : b = true := h2.2 h
  obtain ⟨x, hx, hE⟩ := porder_loop h L.length 0 [] (by omega) (List.Perm.refl _) (fun i _ hi => absurd hi (Nat.not_lt_zero _))
  refine ⟨x, hx, ?_⟩
  unfold poll_Order.f
  refine Ev.bd h1 (Ev.no (by decide) ?_)
  exact hE
theorem porder_no (hL : L.length < 1000000) (h : ¬ OkA L now R) : Ev (fun k => poll_Order.f k L now R) (100, []) := by
  obtain ⟨b, h1, h2⟩ := pmay (L := L) (now := now) (R := R) hL
  have hb : b = false := by
    cases b
    · rfl
    · exact absurd (h2.1 rfl) h
  subst hb
  unfold poll_Order.f
  exact Ev.bd h1 (Ev.yes rfl Ev.ret)
end
end Go.Proofs.Ytiikmhomlhgobaa.Den
