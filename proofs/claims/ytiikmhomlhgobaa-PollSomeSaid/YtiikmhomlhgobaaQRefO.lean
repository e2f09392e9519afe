/- The reference's answer is one as it must be. -/
import Derived.Test.YtiikmhomlhgobaaQPoll
set_option linter.unusedVariables false
set_option linter.unusedSimpArgs false
namespace Go.Proofs.Ytiikmhomlhgobaa.Den
open Go Go.Proofs.YtiikmhomlhgobaaM Go.HeapT
section
variable {L : List api_Sub} {now : Int} {R : List api_Event}
theorem when_ok (h : OkA L now R) {j : Nat} (hj : j < L.length) (k : Nat) (s : api_Sub) (hs : s = L.getD j z_api_Sub) : gangwayref23_when.f k s.User s.Kind s.Fd s.Timeout s.Abs now = some (wh (L.getD j z_api_Sub) now) := by
  subst hs
  have hb := wh_bd h hj
  have hn := h.1
  have hg := h.2.2.2.2 j hj
  unfold gd at hg
  unfold gangwayref23_when.f
  by_cases hA : (L.getD j z_api_Sub).Abs = true
  · rw [if_pos hA]
    unfold wh
    rw [if_pos hA]
  · rw [if_neg hA]
    unfold wh
    rw [if_neg hA, w64 (by omega) (by omega)]
/-! ### the selection -/
def cand (L : List api_Sub) (now T : Int) (P : List poll_alarm) (j : Nat) : Prop := (L.getD j z_api_Sub).Kind = 0 ∧ al L now j ∉ P ∧ wh (L.getD j z_api_Sub) now ≤ T
/-- The best of the first i, or none. -/
def Best (L : List api_Sub) (now T : Int) (P : List poll_alarm) (i : Nat) (q : Int) : Prop := (q = -1 ∧ ∀ j, j < i → ¬ cand L now T P j) ∨ (∃ p : Nat, p < i ∧ q = (p : Int) ∧ cand L now T P p ∧ ∀ j, j < i → cand L now T P j → j = p ∨ alt (al L now p) (al L now j) = true)
theorem best_skip {T : Int} {P : List poll_alarm} {i : Nat} {q : Int} (h : Best L now T P i q) (hc : ¬ cand L now T P i) : Best L now T P (i + 1) q := by
  rcases h with ⟨e, h⟩ | ⟨p, h1, e, h2, h3⟩
  · refine .inl ⟨e, fun j hj => ?_⟩
    by_cases e : j = i
    · rw [e]; exact hc
    · exact h j (by omega)
  · refine .inr ⟨p, by omega, e, h2, fun j hj hcj => ?_⟩
    by_cases e : j = i
    · rw [e] at hcj; exact absurd hcj hc
    · exact h3 j (by omega) hcj
theorem best_new {T : Int} {P : List poll_alarm} {i : Nat} {q : Int} (h : Best L now T P i q) (hc : cand L now T P i) (hq : q = -1 ∨ ∃ p : Nat, q = (p : Int) ∧ wh (L.getD i z_api_Sub) now < wh (L.getD p z_api_Sub) now) : Best L now T P (i + 1) (i : Int) := by
  refine .inr ⟨i, Nat.lt_succ_self _, rfl, hc, fun j hj hcj => ?_⟩
  by_cases e : j = i
  · exact .inl e
  · refine .inr ?_
    rcases h with ⟨e', h⟩ | ⟨p, h1, e', h2, h3⟩
    · exact absurd hcj (h j (by omega))
    · rcases hq with hq | ⟨p', hq, hlt⟩
      · omega
      · have : p' = p := by omega
        subst this
        have hip : alt (al L now i) (al L now p') = true := alt_t.2 (.inl hlt)
        rcases h3 j (by omega) hcj with e | h4
        · rw [e]; exact hip
        · exact alt_trans hip h4
theorem best_old {T : Int} {P : List poll_alarm} {i p : Nat} (h : Best L now T P i (p : Int)) (hle : ¬ wh (L.getD i z_api_Sub) now < wh (L.getD p z_api_Sub) now) : Best L now T P (i + 1) (p : Int) := by
  rcases h with ⟨e, h⟩ | ⟨p', h1, e', h2, h3⟩
  · omega
  · have : p = p' := by omega
    subst this
    refine .inr ⟨p, by omega, rfl, h2, fun j hj hcj => ?_⟩
    by_cases e : j = i
    · refine .inr (alt_t.2 ?_)
      rw [e]
      show wh (L.getD p z_api_Sub) now < wh (L.getD i z_api_Sub) now ∨ wh (L.getD p z_api_Sub) now = wh (L.getD i z_api_Sub) now ∧ (p : Int) < (i : Int)
      omega
    · exact h3 j (by omega) hcj
structure UsedB (L : List api_Sub) (now : Int) (P : List poll_alarm) (used : List Bool) : Prop where
  len : used.length = 32
  at_ : ∀ j, j < L.length → (used.getD j false = true ↔ al L now j ∈ P)
theorem inner (h : OkA L now R) {T : Int} {P : List poll_alarm} {used : List Bool} (hu : UsedB L now P used) (x : List api_Event) (r : List api_Event)
    (fin : ∀ q, Best L now T P L.length q → Ev (fun k => gangwayref23_Order.go k (.s18 L now T q (L.length : Int) x used)) r) :
    ∀ (d i : Nat) (q : Int), i + d = L.length → Best L now T P i q → Ev (fun k => gangwayref23_Order.go k (.s18 L now T q (i : Int) x used)) r
  | 0, i, q, hi, hb => by
    have hi : i = L.length := by omega
    subst hi
    exact fin q hb
  | d + 1, i, q, hi, hb => by
    have hl2 := h.2.2.1
    have next : ∀ q', Best L now T P (i + 1) q' → Ev (fun k => gangwayref23_Order.go k (.s18 L now T q' (((i + 1 : Nat)) : Int) x used)) r := fun q' hb' => inner h hu x r fin d (i + 1) q' (by omega) hb'
    have hin : ∀ (y : Option (List api_Event)), inB (i : Int) L.length y = y := fun y => inB_of (by omega) (by omega)
    have hin2 : ∀ (y : Option (List api_Event)), inB (i : Int) 32 y = y := fun y => inB_of (by omega) (by omega)
    refine Ev.step ?_
    simp only [gangwayref23_Order.go, hin, hin2, Int.toNat_natCast, w64s (show i < 9223372036854775807 by omega), when_ok h (show i < L.length by omega) _ _ rfl, Option.bind_some]
    refine Ev.yes (by omega) ?_
    by_cases hK : (L.getD i z_api_Sub).Kind = 0
    rotate_left
    · exact Ev.no hK (next q (best_skip hb (fun hc => hK hc.1)))
    refine Ev.yes hK ?_
    cases hus : used.getD i false with
    | true => exact Ev.no (by decide) (next q (best_skip hb (fun hc => hc.2.1 ((hu.at_ i (by omega)).1 hus))))
    | false =>
      refine Ev.yes rfl ?_
      have hnP : al L now i ∉ P := fun hm => by
        rw [(hu.at_ i (by omega)).2 hm] at hus
        cases hus
      by_cases hT : wh (L.getD i z_api_Sub) now ≤ T
      rotate_left
      · exact Ev.no hT (next q (best_skip hb (fun hc => hT hc.2.2)))
      refine Ev.yes hT ?_
      have hc : cand L now T P i := ⟨hK, hnP, hT⟩
      by_cases hq : q < 0
      · refine Ev.yes hq (next _ (best_new hb hc (.inl ?_)))
        rcases hb with ⟨e, _⟩ | ⟨p, _, e, _⟩
        · exact e
        · omega
      · refine Ev.no hq ?_
        obtain ⟨p, hp, e⟩ : ∃ p : Nat, p < i ∧ q = (p : Int) := by
          rcases hb with ⟨e, _⟩ | ⟨p, hp, e, _⟩
          · omega
          · exact ⟨p, hp, e⟩
        subst e
        have hinp : ∀ (y : Option (List api_Event)), inB (p : Int) L.length y = y := fun y => inB_of (by omega) (by omega)
        simp only [hinp, Int.toNat_natCast, when_ok h (show p < L.length by omega) _ _ rfl, Option.bind_some]
        by_cases hlt : wh (L.getD i z_api_Sub) now < wh (L.getD p z_api_Sub) now
        · exact Ev.yes hlt (next _ (best_new hb hc (.inr ⟨p, rfl, hlt⟩)))
        · exact Ev.no hlt (next _ (best_old hb hlt))
theorem filter_lt {α : Type} {p p' : α → Bool} : ∀ {l : List α}, (∀ x, p' x = true → p x = true) → (∃ x ∈ l, p x = true ∧ p' x = false) → (l.filter p').length < (l.filter p).length
  | [], _, ⟨x, hx, _⟩ => by cases hx
  | a :: l, h, ⟨x, hx, h1, h2⟩ => by
    have le : (l.filter p').length ≤ (l.filter p).length := by
      rw [← List.countP_eq_length_filter, ← List.countP_eq_length_filter]
      exact List.countP_mono_left (fun x _ => h x)
    rw [List.filter_cons, List.filter_cons]
    rcases List.mem_cons.1 hx with e | hx
    · subst e
      rw [if_pos h1, if_neg (by rw [h2]; decide), List.length_cons]
      omega
    · have := filter_lt h ⟨x, hx, h1, h2⟩
      cases e : p' a with
      | true => rw [if_pos rfl, if_pos (h a e), List.length_cons, List.length_cons]; omega
      | false =>
        rw [if_neg (by decide)]
        split
        · rw [List.length_cons]; omega
        · exact this
/-- How many are left. -/
def left (L : List api_Sub) (used : List Bool) : Nat := ((List.range L.length).filter (fun j => !used.getD j false)).length
theorem select (h : OkA L now R) {T : Int} (X : List api_Event) (hX : X.length ≤ 1000) : ∀ (n : Nat) (used : List Bool) (P : List poll_alarm), left L used ≤ n → P.length + left L used ≤ 1000 → UsedB L now P used → P.Pairwise (fun a b => alt a b = true) → (∀ p ∈ P, p ∈ clk L now L.length ∧ p.when_ ≤ T) → (∀ p ∈ P, ∀ j, j < L.length → cand L now T P j → alt p (al L now j) = true) →
    ∃ O, Drained (clk L now L.length) T O ∧ Ev (fun k => gangwayref23_Order.go k (.s16 L now T (X ++ P.map (evt L)) used)) (X ++ O.map (evt L)) := by
  intro n
  induction n with
  | zero =>
    intro used P hn hPl hu h1 h2 h3
    have hno : ∀ j, j < L.length → ¬ cand L now T P j := fun j hj hc => by
      have hf : used.getD j false = false := by
        cases e : used.getD j false with
        | false => rfl
        | true => exact absurd ((hu.at_ j hj).1 e) hc.2.1
      have : j ∈ (List.range L.length).filter (fun j => !used.getD j false) := by
        rw [List.mem_filter]
        exact ⟨List.mem_range.2 hj, by simp only [hf, Bool.not_false]⟩
      have := List.length_pos_of_mem this
      unfold left at hn
      omega
    refine ⟨P, ⟨h1, fun x => ⟨fun hx => h2 x hx, fun hx => ?_⟩⟩, Ev.step ?_⟩
    · obtain ⟨j, hj, hK, rfl⟩ := mem_clk.1 hx.1
      by_cases hm : al L now j ∈ P
      · exact hm
      · exact absurd ⟨hK, hm, hx.2⟩ (hno j hj)
    · simp only [gangwayref23_Order.go]
      refine inner h hu _ _ (fun q hb => ?_) L.length 0 (-1) (by omega) (.inl ⟨rfl, fun j hj => absurd hj (Nat.not_lt_zero _)⟩)
      refine Ev.step ?_
      simp only [gangwayref23_Order.go]
      refine Ev.no (by omega) ?_
      rcases hb with ⟨e, _⟩ | ⟨p, hp, e, hc, _⟩
      · exact Ev.yes (by omega) Ev.ret
      · exact absurd hc (hno p hp)
  | succ n ih =>
    intro used P hn hPl hu h1 h2 h3
    by_cases hany : ∃ j, j < L.length ∧ cand L now T P j
    rotate_left
    · have hno : ∀ j, j < L.length → ¬ cand L now T P j := fun j hj hc => hany ⟨j, hj, hc⟩
      refine ⟨P, ⟨h1, fun x => ⟨fun hx => h2 x hx, fun hx => ?_⟩⟩, Ev.step ?_⟩
      · obtain ⟨j, hj, hK, rfl⟩ := mem_clk.1 hx.1
        by_cases hm : al L now j ∈ P
        · exact hm
        · exact absurd ⟨hK, hm, hx.2⟩ (hno j hj)
      · simp only [gangwayref23_Order.go]
        refine inner h hu _ _ (fun q hb => ?_) L.length 0 (-1) (by omega) (.inl ⟨rfl, fun j hj => absurd hj (Nat.not_lt_zero _)⟩)
        refine Ev.step ?_
        simp only [gangwayref23_Order.go]
        refine Ev.no (by omega) ?_
        rcases hb with ⟨e, _⟩ | ⟨p, hp, e, hc, _⟩
        · exact Ev.yes (by omega) Ev.ret
        · exact absurd hc (hno p hp)
    · -- the best one of all
      have hl2 := h.2.2.1
      have key : ∀ p, p < L.length → cand L now T P p → (∀ j, j < L.length → cand L now T P j → j = p ∨ alt (al L now p) (al L now j) = true) → ∃ O, Drained (clk L now L.length) T O ∧ Ev (fun k => gangwayref23_Order.go k (.s16 L now T (X ++ (P ++ [al L now p]).map (evt L)) (used.set p true))) (X ++ O.map (evt L)) := by
        intro p hp hc hbest
        have hup : used.getD p false = false := by
          cases e : used.getD p false with
          | false => rfl
          | true => exact absurd ((hu.at_ p hp).1 e) hc.2.1
        have hget : ∀ j, (used.set p true).getD j false = if p = j then true else used.getD j false := fun j => by
          rw [List.getD_eq_getElem?_getD, List.getD_eq_getElem?_getD, List.getElem?_set]
          by_cases e : p = j
          · rw [if_pos e, if_pos e, if_pos (by rw [hu.len]; omega)]; rfl
          · rw [if_neg e, if_neg e]
        have hlt : left L (used.set p true) < left L used := by
          unfold left
          refine filter_lt (fun j hj => ?_) ⟨p, List.mem_range.2 hp, by simp only [hup, Bool.not_false], by simp only [hget, if_pos, Bool.not_true]⟩
          simp only [hget] at hj
          by_cases e : p = j
          · rw [if_pos e] at hj; cases hj
          · rw [if_neg e] at hj; exact hj
        refine ih (used.set p true) (P ++ [al L now p]) (by omega) (by rw [List.length_append, List.length_cons, List.length_nil]; omega) ⟨by rw [List.length_set]; exact hu.len, fun j hj => ?_⟩ (List.pairwise_append.2 ⟨h1, List.pairwise_singleton _ _, fun a ha b hb => by rw [List.mem_singleton.1 hb]; exact h3 a ha p hp hc⟩) (fun x hx => ?_) (fun x hx j hj hcj => ?_)
        · rw [hget, List.mem_append, List.mem_singleton]
          by_cases e : p = j
          · rw [if_pos e, e]; simp
          · rw [if_neg e, hu.at_ j hj]
            exact ⟨.inl, fun h => h.elim id (fun e2 => absurd (al_inj e2).symm e)⟩
        · rcases List.mem_append.1 hx with hx | hx
          · exact h2 x hx
          · rw [List.mem_singleton.1 hx]
            exact ⟨mem_clk.2 ⟨p, hp, hc.1, rfl⟩, hc.2.2⟩
        · have hcj' : cand L now T P j := ⟨hcj.1, fun hm => hcj.2.1 (List.mem_append.2 (.inl hm)), hcj.2.2⟩
          rcases List.mem_append.1 hx with hx | hx
          · exact h3 x hx j hj hcj'
          · rw [List.mem_singleton.1 hx]
            rcases hbest j hj hcj' with e | h4
            · subst e
              exact absurd (List.mem_append.2 (.inr (List.mem_singleton.2 rfl))) hcj.2.1
            · exact h4
      -- there is one
      obtain ⟨p, hp, hc, hbest⟩ : ∃ p, p < L.length ∧ cand L now T P p ∧ ∀ j, j < L.length → cand L now T P j → j = p ∨ alt (al L now p) (al L now j) = true := by
        have : ∀ i, i ≤ L.length → ∃ q, Best L now T P i q := by
          intro i
          induction i with
          | zero => exact fun _ => ⟨-1, .inl ⟨rfl, fun j hj => absurd hj (Nat.not_lt_zero _)⟩⟩
          | succ i ih =>
            intro hi
            obtain ⟨q, hb⟩ := ih (by omega)
            by_cases hc : cand L now T P i
            · rcases Classical.em (q = -1) with e | e
              · exact ⟨_, best_new hb hc (.inl e)⟩
              · obtain ⟨p, e⟩ : ∃ p : Nat, q = (p : Int) := by
                  rcases hb with ⟨e', _⟩ | ⟨p, _, e', _⟩
                  · exact absurd e' e
                  · exact ⟨p, e'⟩
                subst e
                by_cases hlt : wh (L.getD i z_api_Sub) now < wh (L.getD p z_api_Sub) now
                · exact ⟨_, best_new hb hc (.inr ⟨p, rfl, hlt⟩)⟩
                · exact ⟨_, best_old hb hlt⟩
            · exact ⟨q, best_skip hb hc⟩
        obtain ⟨q, hb⟩ := this L.length (Nat.le_refl _)
        rcases hb with ⟨_, hno⟩ | ⟨p, hp, _, hc, hbest⟩
        · obtain ⟨j, hj, hcj⟩ := hany
          exact absurd hcj (hno j hj)
        · exact ⟨p, hp, hc, hbest⟩
      obtain ⟨O, hO, hE⟩ := key p hp hc hbest
      refine ⟨O, hO, Ev.step ?_⟩
      simp only [gangwayref23_Order.go]
      refine inner h hu _ _ (fun q hb => ?_) L.length 0 (-1) (by omega) (.inl ⟨rfl, fun j hj => absurd hj (Nat.not_lt_zero _)⟩)
      have hq : q = (p : Int) := by
        rcases hb with ⟨e, hno⟩ | ⟨p', hp', e, hc', hbest'⟩
        · exact absurd hc (hno p hp)
        · rcases hbest p' hp' hc' with e2 | e2
          · rw [e, e2]
          · rcases hbest' p hp hc with e3 | e3
            · rw [e, e3]
            · rw [alt1 _ _ e2] at e3; cases e3
      subst hq
      refine Ev.step ?_
      simp only [gangwayref23_Order.go]
      refine Ev.no (by omega) (Ev.no (by omega) (Ev.inb (by omega) (by omega) (Ev.inb (by omega) (by omega) ?_)))
      refine Ev.yes (by rw [List.length_append, List.length_map, List.length_cons, List.length_nil]; omega) ?_
      rw [show X ++ P.map (evt L) ++ [(⟨(L.getD ((p : Int)).toNat z_api_Sub).User, 0, 0, 0⟩ : api_Event)] = X ++ (P ++ [al L now p]).map (evt L) by rw [List.map_append, List.append_assoc]; rfl]
      exact hE
theorem left_le (used : List Bool) : left L used ≤ L.length := by
  unfold left
  exact Nat.le_trans (List.length_filter_le _ _) (by rw [List.length_range]; exact Nat.le_refl _)
/-- The first loop: the descriptors' events, the least time. -/
def Least (L : List api_Sub) (now : Int) (i : Nat) (m : Int) : Prop := (clk L now i = [] ∧ m = -1) ∨ ((∃ c ∈ clk L now i, c.when_ = m) ∧ ∀ c ∈ clk L now i, m ≤ c.when_)
theorem least_new (h : OkA L now R) {i : Nat} {m : Int} (hi : i < L.length) (hm : Least L now i m) (hK : (L.getD i z_api_Sub).Kind = 0) : Least L now (i + 1) (if m < 0 then wh (L.getD i z_api_Sub) now else if wh (L.getD i z_api_Sub) now < m then wh (L.getD i z_api_Sub) now else m) := by
  obtain ⟨e1, _⟩ := clk_yes (now := now) (R := R) hK
  have hb := wh_bd h hi
  have hal : (al L now i).when_ = wh (L.getD i z_api_Sub) now := rfl
  right
  rw [e1]
  rcases hm with ⟨hm, rfl⟩ | ⟨⟨c, hc, rfl⟩, hm⟩
  · rw [hm, if_pos (by omega)]
    exact ⟨⟨al L now i, by simp, rfl⟩, fun c hc => by simp at hc; rw [hc]; exact Int.le_refl _⟩
  · have hc0 : 0 ≤ c.when_ := by
      obtain ⟨j, hj, _, rfl⟩ := mem_clk.1 hc
      exact (wh_bd h (by omega)).1
    rw [if_neg (by omega)]
    by_cases hlt : wh (L.getD i z_api_Sub) now < c.when_
    · rw [if_pos hlt]
      refine ⟨⟨al L now i, by simp, rfl⟩, fun x hx => ?_⟩
      rcases List.mem_append.1 hx with hx | hx
      · have := hm x hx
        omega
      · rw [List.mem_singleton.1 hx]; exact Int.le_refl _
    · rw [if_neg hlt]
      refine ⟨⟨c, List.mem_append.2 (.inl hc), rfl⟩, fun x hx => ?_⟩
      rcases List.mem_append.1 hx with hx | hx
      · exact hm x hx
      · rw [List.mem_singleton.1 hx]
        show c.when_ ≤ wh (L.getD i z_api_Sub) now
        omega
theorem rorder_loop (h : OkA L now R) : ∀ (d i : Nat) (m : Int) (b : Bool), i + d = L.length → Least L now i m → (b = true ↔ fdl L R i ≠ []) → ∃ x, Ans L now R x ∧ Ev (fun k => gangwayref23_Order.go k (.s6 L now R now m b (i : Int) (fdl L R i))) x
  | 0, i, m, b, hi, hm, hb => by
    have hi : i = L.length := by omega
    subst hi
    have hlen := clk_len (L := L) (now := now) (R := R) L.length
    have hl2 := h.2.2.1
    have key : ∀ T, Lim L now R T → ∃ x, Ans L now R x ∧ Ev (fun k => gangwayref23_Order.go k (.s16 L now T (fdl L R L.length) (List.replicate 32 false))) x := fun T hT => by
      have hz : ∀ j, (List.replicate 32 false).getD j false = false := fun j => by
        rw [List.getD_eq_getElem?_getD, List.getElem?_replicate]
        split <;> rfl
      obtain ⟨O, hO, hE⟩ := select h (T := T) (fdl L R L.length) (by omega) L.length (List.replicate 32 false) [] (left_le _) (by have := left_le (L := L) (List.replicate 32 false); rw [List.length_nil]; omega) ⟨List.length_replicate, fun j hj => by rw [hz]; simp⟩ List.Pairwise.nil (fun p hp => by cases hp) (fun p hp => by cases hp)
      refine ⟨_, ⟨T, O, hT, hO, rfl⟩, ?_⟩
      rw [List.map_nil, List.append_nil] at hE
      exact hE
    cases b with
    | true =>
      obtain ⟨x, hx, hE⟩ := key now (.inl ⟨hb.1 rfl, rfl⟩)
      refine ⟨x, hx, Ev.step ?_⟩
      simp only [gangwayref23_Order.go]
      exact Ev.no (by omega) (Ev.no (by decide) hE)
    | false =>
      have hf : fdl L R L.length = [] := Classical.byContradiction fun hne => by have := hb.2 hne; cases this
      have hm' : (∃ c ∈ clk L now L.length, c.when_ = m) ∧ ∀ c ∈ clk L now L.length, m ≤ c.when_ := by
        rcases hm with ⟨e, _⟩ | hm
        · have h0 : (fdl L R L.length).length = 0 := by rw [hf]; rfl
          have h1 : (clk L now L.length).length = 0 := by rw [e]; rfl
          have := h.2.1
          omega
        · exact hm
      obtain ⟨x, hx, hE⟩ := key (if now < m then m else now) (.inr ⟨hf, m, hm'.1, hm'.2, rfl⟩)
      refine ⟨x, hx, Ev.step ?_⟩
      simp only [gangwayref23_Order.go]
      refine Ev.no (by omega) (Ev.yes rfl ?_)
      by_cases hlt : now < m
      · rw [if_pos hlt] at hE
        exact Ev.yes hlt hE
      · rw [if_neg hlt] at hE
        exact Ev.no (by omega) hE
  | d + 1, i, m, b, hi, hm, hb => by
    have hl2 := h.2.2.1
    have hgd := h.2.2.2.2 i (by omega)
    have hlen := clk_len (L := L) (now := now) (R := R) i
    have hin : ∀ (y : Option (List api_Event)), inB (i : Int) L.length y = y := fun y => inB_of (by omega) (by omega)
    have hinR : ∀ (y : Option (List api_Event)), inB (i : Int) R.length y = y := fun y => inB_of (by omega) (by rw [h.2.2.2.1]; omega)
    by_cases hK : (L.getD i z_api_Sub).Kind = 0
    · obtain ⟨e1, e2⟩ := clk_yes (now := now) (R := R) hK
      obtain ⟨x, hx, hE⟩ := rorder_loop h d (i + 1) _ b (by omega) (least_new h (by omega) hm hK) (by rw [e2]; exact hb)
      refine ⟨x, hx, Ev.step ?_⟩
      simp only [gangwayref23_Order.go, hin, Int.toNat_natCast, w64s (show i < 9223372036854775807 by omega), when_ok h (show i < L.length by omega) _ _ rfl, Option.bind_some]
      refine Ev.yes (by omega) (Ev.no (by rw [hK]; decide) ?_)
      rw [e2] at hE
      by_cases hm0 : m < 0
      · rw [if_pos hm0] at hE
        exact Ev.yes hm0 hE
      · rw [if_neg hm0] at hE
        refine Ev.no hm0 ?_
        by_cases hlt : wh (L.getD i z_api_Sub) now < m
        · rw [if_pos hlt] at hE
          exact Ev.yes hlt hE
        · rw [if_neg hlt] at hE
          exact Ev.no hlt hE
    · obtain ⟨e1, e2⟩ := clk_no (now := now) (R := R) hK
      obtain ⟨x, hx, hE⟩ := rorder_loop h d (i + 1) m true (by omega) (by unfold Least; rw [e1]; exact hm) (by rw [e2]; simp)
      refine ⟨x, hx, Ev.step ?_⟩
      simp only [gangwayref23_Order.go, hin, hinR, Int.toNat_natCast, w64s (show i < 9223372036854775807 by omega)]
      refine Ev.yes (by omega) (Ev.yes (by have := hgd.1; omega) (Ev.yes (by rw [List.length_cons, List.length_nil]; omega) ?_))
      rw [e2] at hE
      exact hE
/-- The reference's answer. -/
theorem rorder (h : OkA L now R) : ∃ x, Ans L now R x ∧ Ev (fun k => gangwayref23_Order.f k L now R) x :=
  rorder_loop h L.length 0 (-1) false (by omega) (.inl ⟨rfl, rfl⟩) (by simp [fdl])
end
end Go.Proofs.Ytiikmhomlhgobaa.Den
