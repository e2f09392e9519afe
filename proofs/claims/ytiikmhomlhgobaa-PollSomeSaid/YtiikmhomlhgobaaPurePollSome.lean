/- There is at least one event, and no more than subscriptions; clocks alone come by when, each once; with a descriptor among them all descriptors' come first: the law's function, told in plain Lean, comes to true for every input. -/
import Derived.Test.YtiikmhomlhgobaaQLaw
set_option linter.unusedVariables false
set_option linter.unusedSimpArgs false
namespace Go.Proofs.Ytiikmhomlhgobaa.Den
open Go Go.Proofs.YtiikmhomlhgobaaM Go.HeapT
theorem getD_set {α : Type} {z : α} {l : List α} {i : Nat} {x : α} (h : i < l.length) (j : Nat) : (l.set i x).getD j z = if i = j then x else l.getD j z := by
  rw [List.getD_eq_getElem?_getD, List.getD_eq_getElem?_getD, List.getElem?_set]
  by_cases e : i = j
  · rw [if_pos e, if_pos e, if_pos h]; rfl
  · rw [if_neg e, if_neg e]
theorem getD_app_l {α : Type} {a b : List α} {q : Nat} (z : α) (h : q < a.length) : (a ++ b).getD q z = a.getD q z := by
  rw [List.getD_eq_getElem?_getD, List.getElem?_append_left h, ← List.getD_eq_getElem?_getD]
theorem getD_app_r {α : Type} {a b : List α} {q : Nat} (z : α) (h : a.length ≤ q) : (a ++ b).getD q z = b.getD (q - a.length) z := by
  rw [List.getD_eq_getElem?_getD, List.getElem?_append_right h, ← List.getD_eq_getElem?_getD]
/-- Whose an answer's events are. -/
structure Who (L : List api_Sub) (now : Int) (x : List api_Event) (f : Nat) (O : List poll_alarm) (U : List Nat) : Prop where
  user : x.map (·.User) = U.map Int.ofNat
  nd : U.Nodup
  lt : ∀ u ∈ U, u < L.length
  len : U.length = f + O.length
  fd : ∀ q, q < f → (L.getD (U.getD q 0) z_api_Sub).Kind ≠ 0
  ck : ∀ q, f ≤ q → q < U.length → (L.getD (U.getD q 0) z_api_Sub).Kind = 0 ∧ O.getD (q - f) z_poll_alarm = al L now (U.getD q 0)
theorem who {L : List api_Sub} {now : Int} {R : List api_Event} (hL : ∀ j, j < L.length → (L.getD j z_api_Sub).User = (j : Int)) (hR : ∀ j, j < L.length → (L.getD j z_api_Sub).Kind ≠ 0 → (R.getD j z_api_Event).User = (j : Int)) {T : Int} {O : List poll_alarm} (hO : Drained (clk L now L.length) T O) :
    ∃ U, Who L now (fdl L R L.length ++ O.map (evt L)) (fdl L R L.length).length O U := by
  have hF : ∀ j ∈ (List.range L.length).filter (fun j => !isC L j), j < L.length ∧ (L.getD j z_api_Sub).Kind ≠ 0 := fun j hj => by
    rw [List.mem_filter, List.mem_range] at hj
    refine ⟨hj.1, fun e => ?_⟩
    have h2 := hj.2
    have : isC L j = true := decide_eq_true e
    simp only [this, Bool.not_true] at h2
    cases h2
  have hA : ∀ a ∈ O, ∃ j, j < L.length ∧ (L.getD j z_api_Sub).Kind = 0 ∧ a = al L now j := fun a ha => mem_clk.1 ((hO.2 a).1 ha).1
  have hfl : (fdl L R L.length).length = ((List.range L.length).filter (fun j => !isC L j)).length := by unfold fdl; rw [List.length_map]
  have gA : ∀ q, q < O.length → ∃ j, j < L.length ∧ (L.getD j z_api_Sub).Kind = 0 ∧ O.getD q z_poll_alarm = al L now j := fun q hq => by
    refine hA _ ?_
    rw [List.getD_eq_getElem?_getD, List.getElem?_eq_getElem hq]
    exact List.getElem_mem hq
  refine ⟨(List.range L.length).filter (fun j => !isC L j) ++ O.map (fun a => a.at_.toNat), ?_, ?_, ?_, ?_, ?_, ?_⟩
  · rw [List.map_append, List.map_append]
    congr 1
    · unfold fdl
      rw [List.map_map]
      exact List.map_congr_left (fun j hj => hR j (hF j hj).1 (hF j hj).2)
    · rw [List.map_map, List.map_map]
      refine List.map_congr_left (fun a ha => ?_)
      obtain ⟨j, hj, _, rfl⟩ := hA a ha
      exact hL j hj
  · refine List.nodup_append.2 ⟨List.Pairwise.filter _ List.nodup_range, List.pairwise_map.2 (List.Pairwise.imp_of_mem (fun {a b} ha hb h e => ?_) hO.1), fun a ha b hb e => ?_⟩
    · obtain ⟨i, _, _, rfl⟩ := hA a ha
      obtain ⟨j, _, _, rfl⟩ := hA b hb
      have e : i = j := e
      subst e
      rw [alt_irr] at h
      cases h
    · subst e
      obtain ⟨c, hc, e⟩ := List.mem_map.1 hb
      obtain ⟨j, hj, hk, rfl⟩ := hA c hc
      have e : j = a := e
      subst e
      exact (hF _ ha).2 hk
  · intro u hu
    rcases List.mem_append.1 hu with hu | hu
    · exact (hF u hu).1
    · obtain ⟨c, hc, rfl⟩ := List.mem_map.1 hu
      obtain ⟨j, hj, hk, rfl⟩ := hA c hc
      exact hj
  · rw [List.length_append, List.length_map, hfl]
  · intro q hq
    rw [getD_app_l _ (by omega)]
    refine (hF _ ?_).2
    rw [List.getD_eq_getElem?_getD, List.getElem?_eq_getElem (by omega)]
    exact List.getElem_mem _
  · intro q h1 h2
    rw [List.length_append, List.length_map] at h2
    rw [getD_app_r _ (by omega), ← hfl]
    obtain ⟨j, hj, hk, e⟩ := gA (q - (fdl L R L.length).length) (by omega)
    have : (O.map (fun a => a.at_.toNat)).getD (q - (fdl L R L.length).length) 0 = j := by
      rw [List.getD_eq_getElem?_getD, List.getElem?_map]
      rw [List.getD_eq_getElem?_getD, List.getElem?_eq_getElem (by omega)] at e
      rw [List.getElem?_eq_getElem (by omega)]
      have e : O[q - (fdl L R L.length).length]'(by omega) = al L now j := e
      rw [Option.map_some, e]
      rfl
    rw [this]
    exact ⟨hk, e⟩
theorem Who.at {L : List api_Sub} {now : Int} {x : List api_Event} {f : Nat} {O : List poll_alarm} {U : List Nat} (h : Who L now x f O U) {q : Nat} (hq : q < x.length) : (x.getD q z_api_Event).User = ((U.getD q 0 : Nat) : Int) ∧ U.getD q 0 < L.length ∧ U.getD q 0 ∈ U ∧ x.length = U.length := by
  have hl : x.length = U.length := by
    have := congrArg List.length h.user
    simpa using this
  have e : (x.map (·.User))[q]? = (U.map Int.ofNat)[q]? := by rw [h.user]
  rw [List.getElem?_map, List.getElem?_map, List.getElem?_eq_getElem hq, List.getElem?_eq_getElem (by omega)] at e
  have e : x[q].User = ((U[q]'(by omega) : Nat) : Int) := Option.some.inj e
  have hm : U.getD q 0 ∈ U := by
    rw [List.getD_eq_getElem?_getD, List.getElem?_eq_getElem (by omega)]
    exact List.getElem_mem _
  refine ⟨?_, h.lt _ hm, hm, hl⟩
  rw [List.getD_eq_getElem?_getD, List.getElem?_eq_getElem hq, List.getD_eq_getElem?_getD, List.getElem?_eq_getElem (by omega)]
  exact e
theorem Who.inj {L : List api_Sub} {now : Int} {x : List api_Event} {f : Nat} {O : List poll_alarm} {U : List Nat} (h : Who L now x f O U) {p q : Nat} (hp : p < U.length) (hq : q < U.length) (e : U.getD p 0 = U.getD q 0) : p = q := by
  rw [List.getD_eq_getElem?_getD, List.getElem?_eq_getElem hp, List.getD_eq_getElem?_getD, List.getElem?_eq_getElem hq] at e
  have e : U[p] = U[q] := e
  have hnd := List.pairwise_iff_getElem.1 h.nd
  rcases Nat.lt_trichotomy p q with h1 | h1 | h1
  · exact absurd e (hnd p q hp hq h1)
  · exact h1
  · exact absurd e.symm (hnd q p hq hp h1)
def numS (n : Nat) (l : List api_Sub) : List api_Sub := l.mapIdx fun i s => if i < n then { s with User := (i : Int) } else s
theorem some_s10 {X : List gangwaylaw24_Ask} {a : Int} {P : List api_Sub} {now : Int} {Q : List api_Event} {R : List api_Event} {r : Bool} : ∀ (d i : Nat) (s : List api_Sub), i + d = s.length → s.length ≤ 1000 → (∀ j, j < i → (s.getD j z_api_Sub).User = (j : Int)) →
    (∀ s' : List api_Sub, s'.length = s.length → (∀ j, j < s'.length → (s'.getD j z_api_Sub).User = (j : Int)) → Ev (fun k => gangwaylaw24_PollSome.go k (.s14 X a 0 P now Q s' R)) r) → Ev (fun k => gangwaylaw24_PollSome.go k (.s10 X a (i : Int) P now Q s R)) r
  | 0, i, s, hi, hl, hU, fin => by
    refine Ev.step ?_
    simp only [gangwaylaw24_PollSome.go]
    exact Ev.no (by omega) (fin s rfl (fun j hj => hU j (by omega)))
  | d + 1, i, s, hi, hl, hU, fin => by
    refine Ev.step ?_
    simp only [gangwaylaw24_PollSome.go, Int.toNat_natCast, w64s (show i < 9223372036854775807 by omega)]
    refine Ev.yes (by omega) (Ev.inb (by omega) (by omega) ?_)
    refine some_s10 d (i + 1) _ (by rw [List.length_set]; omega) (by rw [List.length_set]; omega) (fun j hj => ?_) (fun s' h1 h2 => fin s' (by rw [h1, List.length_set]) h2)
    rw [getD_set (by omega)]
    by_cases e : i = j
    · rw [if_pos e, e]
    · rw [if_neg e]
      exact hU j (by omega)
theorem some_s14 {X : List gangwaylaw24_Ask} {a : Int} {P : List api_Sub} {now : Int} {Q : List api_Event} {S : List api_Sub} {r : Bool} : ∀ (d i : Nat) (s : List api_Event), i + d = s.length → s.length ≤ 1000 → (∀ j, j < i → (s.getD j z_api_Event).User = (j : Int)) →
    (∀ s' : List api_Event, s'.length = s.length → (∀ j, j < s'.length → (s'.getD j z_api_Event).User = (j : Int)) → Ev (fun k => gangwaylaw24_PollSome.go k (.s14 X a (s'.length : Int) P now Q S s')) r) → Ev (fun k => gangwaylaw24_PollSome.go k (.s14 X a (i : Int) P now Q S s)) r
  | 0, i, s, hi, hl, hU, fin => by
    have := fin s rfl (fun j hj => hU j (by omega))
    rwa [show s.length = i by omega] at this
  | d + 1, i, s, hi, hl, hU, fin => by
    refine Ev.step ?_
    simp only [gangwaylaw24_PollSome.go, Int.toNat_natCast, w64s (show i < 9223372036854775807 by omega)]
    refine Ev.yes (by omega) (Ev.inb (by omega) (by omega) ?_)
    refine some_s14 d (i + 1) _ (by rw [List.length_set]; omega) (by rw [List.length_set]; omega) (fun j hj => ?_) (fun s' h1 h2 => fin s' (by rw [h1, List.length_set]) h2)
    rw [getD_set (by omega)]
    by_cases e : i = j
    · rw [if_pos e, e]
    · rw [if_neg e]
      exact hU j (by omega)
section
variable {X : List gangwaylaw24_Ask} {a : Int} {P : List api_Sub} {now : Int} {Q : List api_Event} {S : List api_Sub} {R : List api_Event} {x : List api_Event} {r : Bool}
theorem some_s24 (h : OkA S now R) (fin : Ev (fun k => gangwaylaw24_PollSome.go k (.s30 X a ((fdl S R S.length).length : Int) (-1) 0 P now Q S x (List.replicate 200 false))) r) : ∀ (d i : Nat), i + d = S.length → Ev (fun k => gangwaylaw24_PollSome.go k (.s24 X a ((fdl S R i).length : Int) (i : Int) P now Q S x (List.replicate 200 false))) r
  | 0, i, hi => by
    have hi : i = S.length := by omega
    subst hi
    refine Ev.step ?_
    simp only [gangwaylaw24_PollSome.go]
    exact Ev.no (by omega) fin
  | d + 1, i, hi => by
    have hl2 := h.2.2.1
    have hgd := h.2.2.2.2 i (by omega)
    have hlen := clk_len (L := S) (now := now) (R := R) i
    have ih := some_s24 h fin d (i + 1) (by omega)
    refine Ev.step ?_
    simp only [gangwaylaw24_PollSome.go, Int.toNat_natCast, w64s (show i < 9223372036854775807 by omega), w64s (show (fdl S R i).length < 9223372036854775807 by omega)]
    refine Ev.yes (by omega) (Ev.inb (by omega) (by omega) ?_)
    by_cases hK : (S.getD i z_api_Sub).Kind = 0
    · obtain ⟨_, e2⟩ := clk_yes (now := now) (R := R) hK
      rw [e2] at ih
      exact Ev.no (by rw [hK]; decide) ih
    · obtain ⟨_, e2⟩ := clk_no (now := now) (R := R) hK
      rw [e2, List.length_append, List.length_cons, List.length_nil] at ih
      exact Ev.yes (by have := hgd.1; omega) ih
theorem some_s30 (h : OkA S now R) {f : Nat} {O : List poll_alarm} {U : List Nat} (hW : Who S now x f O U) {T : Int} (hO : Drained (clk S now S.length) T O) (hT : 0 < f → T = now) (hxl : x.length ≤ 1000)
    (fin : Ev (fun k => gangwaylaw24_PollSome.go k (.s2 X (IntKind.i64.wrap (a + 1)))) true) : ∀ (d i : Nat) (last : Int) (seen : List Bool), i + d = x.length → seen.length = 200 → (∀ j, j < 200 → (seen.getD j false = true ↔ ∃ q, q < i ∧ U.getD q 0 = j)) → ((i ≤ f ∧ last = -1) ∨ (f < i ∧ last = (O.getD (i - 1 - f) z_poll_alarm).when_)) →
    Ev (fun k => gangwaylaw24_PollSome.go k (.s30 X a (f : Int) last (i : Int) P now Q S x seen)) true
  | 0, i, last, seen, hi, hs, hsn, hla => by
    refine Ev.step ?_
    simp only [gangwaylaw24_PollSome.go]
    exact Ev.no (by omega) fin
  | d + 1, i, last, seen, hi, hs, hsn, hla => by
    have hl2 := h.2.2.1
    obtain ⟨hu, hul, hum, hxU⟩ := hW.at (q := i) (by omega)
    obtain ⟨u, eu⟩ : ∃ u, u = U.getD i 0 := ⟨_, rfl⟩
    rw [← eu] at hu hul hum
    have hgd := h.2.2.2.2 u hul
    have hsu : seen.getD u false = false := by
      cases e : seen.getD u false with
      | false => rfl
      | true =>
        obtain ⟨q, hq, e2⟩ := (hsn u (by omega)).1 e
        rw [eu] at e2
        have := hW.inj (by omega) (by omega) e2
        omega
    have hsn' : ∀ j, j < 200 → ((seen.set u true).getD j false = true ↔ ∃ q, q < i + 1 ∧ U.getD q 0 = j) := fun j hj => by
      rw [getD_set (by omega)]
      by_cases e : u = j
      · rw [if_pos e]
        exact ⟨fun _ => ⟨i, by omega, by rw [← eu, e]⟩, fun _ => rfl⟩
      · rw [if_neg e, hsn j hj]
        constructor
        · rintro ⟨q, h1, h2⟩; exact ⟨q, by omega, h2⟩
        · rintro ⟨q, h1, h2⟩
          by_cases e3 : q = i
          · rw [e3, ← eu] at h2; exact absurd h2 e
          · exact ⟨q, by omega, h2⟩
    have next := fun last' hla' => some_s30 h hW hO hT hxl fin d (i + 1) last' (seen.set u true) (by omega) (by rw [List.length_set]; exact hs) hsn' hla'
    have in1 : ∀ (y : Option Bool), inB (i : Int) x.length y = y := fun y => inB_of (by omega) (by omega)
    have in2 : ∀ (y : Option Bool), inB (u : Int) 200 y = y := fun y => inB_of (by omega) (by omega)
    have in3 : ∀ (y : Option Bool), inB (u : Int) S.length y = y := fun y => inB_of (by omega) (by omega)
    refine Ev.step ?_
    simp only [gangwaylaw24_PollSome.go, in1, Int.toNat_natCast, hu, in2, in3, hsu, w64s (show i < 9223372036854775807 by omega)]
    refine Ev.yes (by omega) (Ev.no (by omega) (Ev.no (by omega) (Ev.no (by decide) ?_)))
    by_cases hf : i < f
    · have hK := hW.fd i hf
      rw [← eu] at hK
      have e1 : decide ((S.getD u z_api_Sub).Kind > 0) = true := decide_eq_true (by have := hgd.1; omega)
      have e2 : decide ((i : Int) < (f : Int)) = true := decide_eq_true (by omega)
      refine Ev.no (by rw [e1, e2]; decide) (Ev.yes (by omega) (next last (.inl ?_)))
      rcases hla with h1 | h1
      · exact ⟨by omega, h1.2⟩
      · omega
    · obtain ⟨hK, hq⟩ := hW.ck i (by omega) (by omega)
      rw [← eu] at hK hq
      have e1 : decide ((S.getD u z_api_Sub).Kind > 0) = false := decide_eq_false (by omega)
      have e2 : decide ((i : Int) < (f : Int)) = false := decide_eq_false (by omega)
      have hOl : i - f < O.length := by have := hW.len; omega
      have hw : (O.getD (i - f) z_poll_alarm).when_ = wh (S.getD u z_api_Sub) now := by rw [hq]; rfl
      have hbd := wh_bd h hul
      have hmem : O.getD (i - f) z_poll_alarm ∈ O := by
        rw [List.getD_eq_getElem?_getD, List.getElem?_eq_getElem hOl]
        exact List.getElem_mem _
      have hle : f > 0 → wh (S.getD u z_api_Sub) now ≤ now := fun hp => by
        have := ((hO.2 _).1 hmem).2
        rw [hw, hT hp] at this
        exact this
      have hge : ¬ wh (S.getD u z_api_Sub) now < last := by
        rcases hla with h1 | h1
        · omega
        · have hp := List.pairwise_iff_getElem.1 hO.1 (i - 1 - f) (i - f) (by omega) hOl (by omega)
          rw [alt_t] at hp
          rw [← hw, h1.2, List.getD_eq_getElem?_getD, List.getElem?_eq_getElem hOl, List.getD_eq_getElem?_getD, List.getElem?_eq_getElem (show i - 1 - f < O.length by omega)]
          show ¬ (O[i - f]).when_ < (O[i - 1 - f]).when_
          omega
      have nx := next (wh (S.getD u z_api_Sub) now) (.inr ⟨by omega, by rw [show i + 1 - 1 - f = i - f by omega, hw]⟩)
      refine Ev.no (by rw [e1, e2]; decide) (Ev.no (by omega) ?_)
      have hn := h.1
      unfold gd at hgd
      cases hA : (S.getD u z_api_Sub).Abs with
      | true =>
        have ew : wh (S.getD u z_api_Sub) now = (S.getD u z_api_Sub).Timeout := if_pos hA
        rw [← ew]
        refine Ev.no (by decide) (Ev.no hge ?_)
        by_cases hf0 : (f : Int) > 0
        · exact Ev.yes hf0 (Ev.no (by have := hle (by omega); omega) nx)
        · exact Ev.no hf0 nx
      | false =>
        have ew : wh (S.getD u z_api_Sub) now = now + (S.getD u z_api_Sub).Timeout := if_neg (by rw [hA]; decide)
        have ew2 : IntKind.i64.wrap ((S.getD u z_api_Sub).Timeout + now) = wh (S.getD u z_api_Sub) now := by
          rw [ew, w64 (by omega) (by omega)]
          omega
        rw [ew2]
        refine Ev.yes rfl (Ev.no hge ?_)
        by_cases hf0 : (f : Int) > 0
        · exact Ev.yes hf0 (Ev.no (by have := hle (by omega); omega) nx)
        · exact Ev.no hf0 nx
end
theorem ans_pos {L : List api_Sub} {now : Int} {R x : List api_Event} (h : Ans L now R x) : 1 ≤ x.length := by
  obtain ⟨T, O, hT, hO, rfl⟩ := h
  rw [List.length_append, List.length_map]
  rcases hT with ⟨h1, _⟩ | ⟨_, m, ⟨c, hc, e⟩, _, hT⟩
  · have := List.length_pos_iff.2 h1
    omega
  · have : c ∈ O := (hO.2 c).2 ⟨hc, by rw [e, hT]; split <;> omega⟩
    have := List.length_pos_of_mem this
    omega
theorem some_loop (X : List gangwaylaw24_Ask) : ∀ (d i : Nat), i + d = 10 → Ev (fun k => gangwaylaw24_PollSome.go k (.s2 X (i : Int))) true := by
  intro d
  induction d with
  | zero =>
    intro i hi
    refine Ev.step ?_
    simp only [gangwaylaw24_PollSome.go]
    refine ev_ite.2 ?_
    split
    · exact Ev.no (by omega) (Ev.bd wakes_ok Ev.ret)
    · exact Ev.bd wakes_ok Ev.ret
  | succ d ih =>
    intro i hi
    have next := ih (i + 1) (by omega)
    refine Ev.step ?_
    simp only [gangwaylaw24_PollSome.go, Int.toNat_natCast]
    by_cases hlt : (i : Int) < (X.length : Int)
    rotate_left
    · exact Ev.no hlt (Ev.bd wakes_ok Ev.ret)
    refine Ev.yes hlt (Ev.yes (by omega) (Ev.inb (by omega) hlt ?_))
    obtain ⟨L, now, R⟩ := X.getD i z_gangwaylaw24_Ask
    simp only
    by_cases h1 : (L.length : Int) > 100
    · exact Ev.yes h1 Ev.ret
    by_cases h2 : (R.length : Int) > 100
    · exact Ev.no h1 (Ev.yes h2 Ev.ret)
    refine Ev.no h1 (Ev.no h2 (Ev.bd (copySubs (by omega)) (Ev.bd (copyEvents (by omega)) ?_)))
    refine some_s10 L.length 0 L (by omega) (by omega) (fun j hj => absurd hj (Nat.not_lt_zero _)) (fun S hS hSU => ?_)
    refine some_s14 R.length 0 R (by omega) (by omega) (fun j hj => absurd hj (Nat.not_lt_zero _)) (fun R' hR hRU => ?_)
    refine Ev.step ?_
    simp only [gangwaylaw24_PollSome.go, w64s (show i < 9223372036854775807 by omega)]
    refine Ev.no (by omega) ?_
    by_cases ok : OkA S now R'
    · obtain ⟨x, hx, hE⟩ := porder ok
      have hxl := ans_len hx
      have hxp := ans_pos hx
      have hl2 := ok.2.2.1
      refine Ev.bd hE ?_
      simp only [gangwaylaw24_num.f, Option.bind_some]
      refine Ev.no (by simp) (Ev.no (by omega) (Ev.no (by omega) ?_))
      obtain ⟨T, O, hT, hO, rfl⟩ := hx
      obtain ⟨U, hW⟩ := who (R := R') hSU (fun j hj _ => hRU j (by rw [ok.2.2.2.1]; exact hj)) hO
      refine some_s24 ok ?_ S.length 0 (by omega)
      refine some_s30 ok hW hO (fun hp => ?_) (by omega) (by rw [w64s (show i < 9223372036854775807 by omega)]; exact next) _ 0 (-1) _ (Nat.zero_add _) List.length_replicate (fun j hj => ?_) (.inl ⟨Nat.zero_le _, rfl⟩)
      · rcases hT with ⟨_, h4⟩ | ⟨h3, _⟩
        · exact h4
        · rw [h3] at hp; cases hp
      · rw [List.getD_eq_getElem?_getD, List.getElem?_replicate, if_pos hj]
        simp
    · refine Ev.bd (porder_no (by omega) ok) ?_
      simp only [gangwaylaw24_num.f, Option.bind_some]
      exact Ev.yes (by simp) next
theorem pure_PollSome (X : List gangwaylaw24_Ask) (h : X.length * 56 ≤ 140737488351232 ∧ ∀ y ∈ X, ok_gangwaylaw24_Ask y) : ∃ k, gangwaylaw24_PollSome.f k X = some true := Ev.get (some_loop X 10 0 rfl)
end Go.Proofs.Ytiikmhomlhgobaa.Den
