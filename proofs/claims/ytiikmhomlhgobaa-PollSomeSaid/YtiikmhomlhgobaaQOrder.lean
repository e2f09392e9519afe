/- What comes first of any subscriptions: what both, the program and the reference, come to. -/
import Derived.Test.YtiikmhomlhgobaaQOrd
set_option linter.unusedVariables false
set_option linter.unusedSimpArgs false
namespace Go.Proofs.Ytiikmhomlhgobaa.Den
open Go Go.Proofs.YtiikmhomlhgobaaM Go.HeapT
def gd (s : api_Sub) : Prop := 0 ≤ s.Kind ∧ s.Kind ≤ 2 ∧ 0 ≤ s.Timeout ∧ s.Timeout ≤ 1125899906842624
instance (s : api_Sub) : Decidable (gd s) := by unfold gd; infer_instance
def OkA (L : List api_Sub) (now : Int) (R : List api_Event) : Prop := (0 ≤ now ∧ now ≤ 1125899906842624) ∧ 1 ≤ L.length ∧ L.length ≤ 32 ∧ R.length = L.length ∧ ∀ i, i < L.length → gd (L.getD i z_api_Sub)
theorem ptime_ok (k : Nat) (n : Int) : poll_time.f k n = some (decide (0 ≤ n ∧ n ≤ 1125899906842624)) := by
  unfold poll_time.f
  by_cases h : n ≥ 0
  · rw [if_pos h]
    congr 2
    apply propext
    omega
  · rw [if_neg h, decide_eq_false (by omega)]
theorem rtime_ok (k : Nat) (n : Int) : gangwayref0_Time.f k n = some (decide (0 ≤ n ∧ n ≤ 1125899906842624)) := by
  unfold gangwayref0_Time.f
  by_cases h : n ≥ 0
  · rw [if_pos h]
    congr 2
    apply propext
    omega
  · rw [if_neg h, decide_eq_false (by omega)]
theorem chk (s : api_Sub) (K : Nat → Option Bool) (r : Bool) (h1 : gd s → Ev K r) (h2 : ¬ gd s → r = false) :
    Ev (fun k => if s.Kind < 0 then some false else if s.Kind > 2 then some false else if (!decide (0 ≤ s.Timeout ∧ s.Timeout ≤ 1125899906842624)) = true then some false else K k) r := by
  by_cases a : s.Kind < 0
  · refine Ev.yes a (ev_some.2 (h2 (fun h => ?_)).symm)
    have := h.1
    omega
  refine Ev.no a ?_
  by_cases b : s.Kind > 2
  · refine Ev.yes b (ev_some.2 (h2 (fun h => ?_)).symm)
    have := h.2.1
    omega
  refine Ev.no b ?_
  by_cases c : 0 ≤ s.Timeout ∧ s.Timeout ≤ 1125899906842624
  · refine Ev.no (by rw [decide_eq_true c]; decide) (h1 ⟨by omega, by omega, c⟩)
  · refine Ev.yes (by rw [decide_eq_false c]; rfl) (ev_some.2 (h2 (fun h => c h.2.2)).symm)
section
variable {L : List api_Sub} {now : Int} {R : List api_Event}
theorem pmay_loop (hL : L.length < 1000000) : ∀ (d i : Nat), i + d = L.length → (∀ j, j < i → gd (L.getD j z_api_Sub)) → ∃ b, Ev (fun k => poll_may.go k (.s2 L now R L (L.length : Int) (i : Int))) b ∧ (b = true ↔ OkA L now R)
  | 0, i, hi, hg => by
    refine ⟨decide ((0 ≤ now ∧ now ≤ 1125899906842624) ∧ 1 ≤ L.length ∧ L.length ≤ 32 ∧ R.length = L.length), Ev.step ?_, ?_⟩
    · simp only [poll_may.go, ptime_ok, Option.bind_some]
      refine Ev.no (by omega) ?_
      refine Ev.cst ?_
      by_cases h1 : 0 ≤ now ∧ now ≤ 1125899906842624
      · rw [if_pos (by rw [decide_eq_true h1])]
        by_cases h2 : (L.length : Int) ≥ 1
        · rw [if_pos h2]
          by_cases h3 : (L.length : Int) ≤ 32
          · rw [if_pos h3]
            congr 2
            apply propext
            omega
          · rw [if_neg h3, decide_eq_false (by omega)]
        · rw [if_neg h2, decide_eq_false (by omega)]
      · rw [if_neg (by rw [decide_eq_false h1]; decide), decide_eq_false (fun h => h1 h.1)]
    · rw [decide_eq_true_iff]
      exact ⟨fun h => ⟨h.1, h.2.1, h.2.2.1, h.2.2.2, fun j hj => hg j (by omega)⟩, fun h => ⟨h.1, h.2.1, h.2.2.1, h.2.2.2.1⟩⟩
  | d + 1, i, hi, hg => by
    have hin : ∀ (x : Option Bool), inB (i : Int) L.length x = x := fun x => inB_of (by omega) (by omega)
    by_cases hgi : gd (L.getD i z_api_Sub)
    · obtain ⟨b, h1, h2⟩ := pmay_loop hL d (i + 1) (by omega) (fun j hj => by
        by_cases e : j = i
        · rw [e]; exact hgi
        · exact hg j (by omega))
      refine ⟨b, Ev.step ?_, h2⟩
      simp only [poll_may.go, ptime_ok, Option.bind_some, hin, Int.toNat_natCast, w64s (show i < 9223372036854775807 by omega)]
      refine Ev.yes (by omega) ?_
      exact chk _ _ _ (fun _ => h1) (fun h => absurd hgi h)
    · refine ⟨false, Ev.step ?_, by simp; exact fun h => hgi (h.2.2.2.2 i (by omega))⟩
      simp only [poll_may.go, ptime_ok, Option.bind_some, hin, Int.toNat_natCast]
      refine Ev.yes (by omega) ?_
      exact chk _ _ _ (fun h => absurd h hgi) (fun _ => rfl)
theorem pmay (hL : L.length < 1000000) : ∃ b, Ev (fun k => poll_may.f k L now R) b ∧ (b = true ↔ OkA L now R) := by
  obtain ⟨b, h1, h2⟩ := pmay_loop (now := now) (R := R) hL L.length 0 (by omega) (fun j hj => absurd hj (Nat.not_lt_zero _))
  exact ⟨b, h1, h2⟩
theorem rmay_loop (hL : L.length < 1000000) (h0 : (0 ≤ now ∧ now ≤ 1125899906842624) ∧ 1 ≤ L.length ∧ L.length ≤ 32 ∧ R.length = L.length) : ∀ (d i : Nat), i + d = L.length → (∀ j, j < i → gd (L.getD j z_api_Sub)) → ∃ b, Ev (fun k => gangwayref23_MayOrder.go k (.s4 L (i : Int))) b ∧ (b = true ↔ OkA L now R)
  | 0, i, hi, hg => by
    refine ⟨true, Ev.step ?_, by simp; exact ⟨h0.1, h0.2.1, h0.2.2.1, h0.2.2.2, fun j hj => hg j (by omega)⟩⟩
    simp only [gangwayref23_MayOrder.go]
    exact Ev.no (by omega) Ev.ret
  | d + 1, i, hi, hg => by
    have hin : ∀ (x : Option Bool), inB (i : Int) L.length x = x := fun x => inB_of (by omega) (by omega)
    by_cases hgi : gd (L.getD i z_api_Sub)
    · obtain ⟨b, h1, h2⟩ := rmay_loop hL h0 d (i + 1) (by omega) (fun j hj => by
        by_cases e : j = i
        · rw [e]; exact hgi
        · exact hg j (by omega))
      refine ⟨b, Ev.step ?_, h2⟩
      simp only [gangwayref23_MayOrder.go, rtime_ok, Option.bind_some, hin, Int.toNat_natCast, w64s (show i < 9223372036854775807 by omega)]
      refine Ev.yes (by omega) ?_
      exact chk _ _ _ (fun _ => h1) (fun h => absurd hgi h)
    · refine ⟨false, Ev.step ?_, by simp; exact fun h => hgi (h.2.2.2.2 i (by omega))⟩
      simp only [gangwayref23_MayOrder.go, rtime_ok, Option.bind_some, hin, Int.toNat_natCast]
      refine Ev.yes (by omega) ?_
      exact chk _ _ _ (fun h => absurd h hgi) (fun _ => rfl)
theorem rmay (hL : L.length < 1000000) : ∃ b, Ev (fun k => gangwayref23_MayOrder.f k L now R) b ∧ (b = true ↔ OkA L now R) := by
  by_cases h0 : (0 ≤ now ∧ now ≤ 1125899906842624) ∧ 1 ≤ L.length ∧ L.length ≤ 32 ∧ R.length = L.length
  · obtain ⟨b, h1, h2⟩ := rmay_loop (now := now) (R := R) hL h0 L.length 0 (by omega) (fun j hj => absurd hj (Nat.not_lt_zero _))
    refine ⟨b, ?_, h2⟩
    unfold gangwayref23_MayOrder.f
    simp only [rtime_ok, Option.bind_some]
    exact Ev.no (by rw [decide_eq_true h0.1]; decide) (Ev.no (by omega) (Ev.no (by omega) (Ev.no (by omega) h1)))
  · refine ⟨false, ?_, by simp; exact fun h => h0 ⟨h.1, h.2.1, h.2.2.1, h.2.2.2.1⟩⟩
    unfold gangwayref23_MayOrder.f
    simp only [rtime_ok, Option.bind_some]
    by_cases a : 0 ≤ now ∧ now ≤ 1125899906842624
    · refine Ev.no (by rw [decide_eq_true a]; decide) ?_
      by_cases b : (L.length : Int) < 1
      · exact Ev.yes b Ev.ret
      refine Ev.no b ?_
      by_cases c : (L.length : Int) > 32
      · exact Ev.yes c Ev.ret
      exact Ev.no c (Ev.yes (by omega) Ev.ret)
    · exact Ev.yes (by rw [decide_eq_false a]; rfl) Ev.ret
end
/-! ### clocks, descriptors -/
def wh (s : api_Sub) (now : Int) : Int := if s.Abs = true then s.Timeout else now + s.Timeout
def al (L : List api_Sub) (now : Int) (j : Nat) : poll_alarm := ⟨wh (L.getD j z_api_Sub) now, (j : Int)⟩
def isC (L : List api_Sub) (j : Nat) : Bool := decide ((L.getD j z_api_Sub).Kind = 0)
def clk (L : List api_Sub) (now : Int) (i : Nat) : List poll_alarm := ((List.range i).filter (isC L)).map (al L now)
def fdl (L : List api_Sub) (R : List api_Event) (i : Nat) : List api_Event := ((List.range i).filter (fun j => !isC L j)).map (fun j => R.getD j z_api_Event)
def evt (L : List api_Sub) (a : poll_alarm) : api_Event := ⟨(L.getD a.at_.toNat z_api_Sub).User, 0, 0, 0⟩
section
variable {L : List api_Sub} {now : Int} {R : List api_Event}
theorem clk_yes {i : Nat} (h : (L.getD i z_api_Sub).Kind = 0) : clk L now (i + 1) = clk L now i ++ [al L now i] ∧ fdl L R (i + 1) = fdl L R i := by
  have e : isC L i = true := decide_eq_true h
  unfold clk fdl
  rw [List.range_succ, List.filter_append, List.map_append, List.filter_append, List.map_append]
  simp [e]
theorem clk_no {i : Nat} (h : ¬ (L.getD i z_api_Sub).Kind = 0) : clk L now (i + 1) = clk L now i ∧ fdl L R (i + 1) = fdl L R i ++ [R.getD i z_api_Event] := by
  have e : isC L i = false := decide_eq_false h
  unfold clk fdl
  rw [List.range_succ, List.filter_append, List.map_append, List.filter_append, List.map_append]
  simp [e]
theorem mem_clk {i : Nat} {a : poll_alarm} : a ∈ clk L now i ↔ ∃ j, j < i ∧ (L.getD j z_api_Sub).Kind = 0 ∧ a = al L now j := by
  unfold clk isC
  simp only [List.mem_map, List.mem_filter, List.mem_range, decide_eq_true_eq]
  exact ⟨fun ⟨j, h, e⟩ => ⟨j, h.1, h.2, e.symm⟩, fun ⟨j, h, h2, e⟩ => ⟨j, ⟨h, h2⟩, e.symm⟩⟩
theorem al_inj {i j : Nat} (h : al L now i = al L now j) : i = j := by
  have : (al L now i).at_ = (al L now j).at_ := by rw [h]
  exact Int.ofNat.inj this
theorem clk_nodup (i : Nat) : (clk L now i).Nodup := by
  unfold clk
  refine List.pairwise_map.2 (List.Pairwise.imp ?_ (List.Pairwise.filter _ List.nodup_range))
  exact fun h e => h (al_inj e)
theorem clk_len (i : Nat) : (clk L now i).length + (fdl L R i).length = i := by
  induction i with
  | zero => rfl
  | succ i ih =>
    by_cases h : (L.getD i z_api_Sub).Kind = 0
    · rw [(clk_yes (now := now) (R := R) h).1, (clk_yes (now := now) (R := R) h).2, List.length_append, List.length_cons, List.length_nil]
      omega
    · rw [(clk_no (now := now) (R := R) h).1, (clk_no (now := now) (R := R) h).2, List.length_append, List.length_cons, List.length_nil]
      omega
end
theorem alt_tot {a b : poll_alarm} (h : alt a b = false) (h2 : alt b a = false) : a = b := by
  rw [alt_f] at h h2
  obtain ⟨w, i⟩ := a
  obtain ⟨v, j⟩ := b
  simp only at h h2
  have : w = v := by omega
  have : i = j := by omega
  simp [*]
theorem alt_irr (a : poll_alarm) : alt a a = false := by
  rw [alt_f]
  omega
theorem alt_trans {a b c : poll_alarm} (h : alt a b = true) (h2 : alt b c = true) : alt a c = true := by
  rw [alt_t] at *
  omega
/-- Lists that rise and have the same members are the same. -/
theorem uniq : ∀ {A B : List poll_alarm}, A.Pairwise (fun a b => alt a b = true) → B.Pairwise (fun a b => alt a b = true) → (∀ x, x ∈ A ↔ x ∈ B) → A = B
  | [], [], _, _, _ => rfl
  | [], b :: B, _, _, h => absurd ((h b).2 List.mem_cons_self) (by simp)
  | a :: A, [], _, _, h => absurd ((h a).1 List.mem_cons_self) (by simp)
  | a :: A, b :: B, hA, hB, h => by
    rw [List.pairwise_cons] at hA hB
    have e : a = b := by
      rcases List.mem_cons.1 ((h a).1 List.mem_cons_self) with e | h1
      · exact e
      rcases List.mem_cons.1 ((h b).2 List.mem_cons_self) with e | h2
      · exact e.symm
      have := alt1 _ _ (hB.1 a h1)
      rw [hA.1 b h2] at this
      cases this
    subst e
    rw [uniq hA.2 hB.2 (fun x => ?_)]
    constructor
    · intro hx
      rcases List.mem_cons.1 ((h x).1 (List.mem_cons_of_mem _ hx)) with e | h1
      · subst e
        have := hA.1 x hx
        rw [alt_irr] at this
        cases this
      · exact h1
    · intro hx
      rcases List.mem_cons.1 ((h x).2 (List.mem_cons_of_mem _ hx)) with e | h1
      · subst e
        have := hB.1 x hx
        rw [alt_irr] at this
        cases this
      · exact h1
/-- What comes of clocks by a time, in order. -/
def Drained (C : List poll_alarm) (T : Int) (O : List poll_alarm) : Prop := O.Pairwise (fun a b => alt a b = true) ∧ ∀ x, x ∈ O ↔ x ∈ C ∧ x.when_ ≤ T
/-- Till when. -/
def Lim (L : List api_Sub) (now : Int) (R : List api_Event) (T : Int) : Prop := (fdl L R L.length ≠ [] ∧ T = now) ∨ (fdl L R L.length = [] ∧ ∃ m, (∃ c ∈ clk L now L.length, c.when_ = m) ∧ (∀ c ∈ clk L now L.length, m ≤ c.when_) ∧ T = if now < m then m else now)
theorem lim_uniq {L : List api_Sub} {now : Int} {R : List api_Event} {T T' : Int} (h : Lim L now R T) (h' : Lim L now R T') : T = T' := by
  rcases h with ⟨h1, h2⟩ | ⟨h1, m, ⟨c, hc, e⟩, hm, h2⟩ <;> rcases h' with ⟨h3, h4⟩ | ⟨h3, m', ⟨c', hc', e'⟩, hm', h4⟩
  · rw [h2, h4]
  · exact absurd h3 h1
  · exact absurd h1 h3
  · have : m = m' := by
      have := hm c' hc'
      have := hm' c hc
      omega
    rw [h2, h4, this]
/-- An answer. -/
def Ans (L : List api_Sub) (now : Int) (R : List api_Event) (x : List api_Event) : Prop := ∃ T O, Lim L now R T ∧ Drained (clk L now L.length) T O ∧ x = fdl L R L.length ++ O.map (evt L)
theorem ans_uniq {L : List api_Sub} {now : Int} {R : List api_Event} {x x' : List api_Event} (h : Ans L now R x) (h' : Ans L now R x') : x = x' := by
  obtain ⟨T, O, h1, h2, rfl⟩ := h
  obtain ⟨T', O', h3, h4, rfl⟩ := h'
  have := lim_uniq h1 h3
  subst this
  rw [uniq h2.1 h4.1 (fun x => (h2.2 x).trans (h4.2 x).symm)]
end Go.Proofs.Ytiikmhomlhgobaa.Den
