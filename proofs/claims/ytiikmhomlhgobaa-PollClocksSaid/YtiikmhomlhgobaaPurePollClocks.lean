/- Clocks alone: what comes at the least time, and nothing later; what has come already comes together, by when: the law's function, told in plain Lean, comes to true for every input. -/
import Derived.Test.YtiikmhomlhgobaaPurePollSome
set_option linter.unusedVariables false
set_option linter.unusedSimpArgs false
namespace Go.Proofs.Ytiikmhomlhgobaa.Den
open Go Go.Proofs.YtiikmhomlhgobaaM Go.HeapT
/-- Clocks alone, each with its number. -/
def Clo (S : List api_Sub) : Prop := ∀ j, j < S.length → (S.getD j z_api_Sub).User = (j : Int) ∧ (S.getD j z_api_Sub).Kind = 0 ∧ 0 ≤ (S.getD j z_api_Sub).Timeout ∧ (S.getD j z_api_Sub).Timeout ≤ 1125899906842624
theorem clo_snoc {S : List api_Sub} (h : Clo S) (t : Int) (b : Bool) (h0 : 0 ≤ t) (h1 : t ≤ 1125899906842624) : Clo (S ++ [⟨(S.length : Int), 0, 0, t, b⟩]) := fun j hj => by
  rw [List.length_append, List.length_cons, List.length_nil] at hj
  by_cases e : j < S.length
  · rw [getD_app_l _ e]
    exact h j e
  · rw [getD_app_r _ (by omega), show j - S.length = 0 by omega]
    refine ⟨?_, rfl, h0, h1⟩
    show (S.length : Int) = (j : Int)
    omega
section
variable {X : List gangwaylaw24_Ask} {a : Int} {P : List api_Sub} {now : Int} {Q : List api_Event} {S : List api_Sub} {x : List api_Event} {r : Bool}
theorem at_ok (h : OkA S now (List.replicate S.length z_api_Event)) {j : Nat} (hj : j < S.length) (k : Nat) (s : api_Sub) (hs : s = S.getD j z_api_Sub) : gangwaylaw24_at.f k s.User s.Kind s.Fd s.Timeout s.Abs now = some (wh (S.getD j z_api_Sub) now) := by
  subst hs
  have hb := wh_bd h hj
  have hn := h.1
  have hg := h.2.2.2.2 j hj
  unfold gd at hg
  unfold gangwaylaw24_at.f
  by_cases hA : (S.getD j z_api_Sub).Abs = true
  · rw [if_pos hA]
    unfold wh
    rw [if_pos hA]
  · rw [if_neg hA]
    unfold wh
    rw [if_neg hA, w64 (by omega) (by omega)]
theorem clocks_s8 (hP : P.length ≤ 1000) (fin0 : Ev (fun k => gangwaylaw24_PollClocks.go k (.s2 X (IntKind.i64.wrap (a + 1)))) r)
    (fin : ∀ S : List api_Sub, Clo S → 0 < S.length → S.length ≤ 32 → ∃ x, Ev (fun k => poll_Order.f k S now (List.replicate S.length z_api_Event)) (0, x) ∧ Ev (fun k => gangwaylaw24_PollClocks.go k (.s19 X a (-1) 0 0 P now Q S x)) r) : ∀ (d i : Nat) (S : List api_Sub), i + d = 32 → S.length ≤ i → Clo S → Ev (fun k => gangwaylaw24_PollClocks.go k (.s8 X a (i : Int) P now Q S)) r := by
  have out : ∀ S : List api_Sub, Clo S → S.length ≤ 32 → Ev (fun k => if (S.length : Int) = (0 : Int) then gangwaylaw24_PollClocks.go k (.s2 X (IntKind.i64.wrap (a + (1 : Int)))) else
      if 0 ≤ (S.length : Int) then if (S.length : Int) ≤ (4398046511104 : Int) then
      (poll_Order.f k S now (List.replicate S.length z_api_Event)).bind fun r61 => (gangwaylaw24_num.f k r61.1).bind fun r62 =>
      if ¬ r62 = (0 : Int) then some false else gangwaylaw24_PollClocks.go k (.s19 X a (-1 : Int) (0 : Int) (0 : Int) P now Q S r61.2) else none else none) r := fun S hS hl => by
    by_cases h0 : (S.length : Int) = 0
    · exact Ev.yes h0 fin0
    · obtain ⟨x, h1, h2⟩ := fin S hS (by omega) hl
      refine Ev.no h0 (Ev.yes (by omega) (Ev.yes (by omega) (Ev.bd h1 ?_)))
      simp only [gangwaylaw24_num.f, Option.bind_some]
      exact Ev.no (by simp) h2
  intro d
  induction d with
  | zero =>
    intro i S hi hl hS
    have o := out S hS (by omega)
    refine Ev.step ?_
    simp only [gangwaylaw24_PollClocks.go, Int.toNat_natCast, if_true]
    refine ev_ite.2 ?_
    split
    · exact Ev.no (by omega) o
    · exact o
  | succ d ih =>
    intro i S hi hl hS
    have o := out S hS (by omega)
    refine Ev.step ?_
    simp only [gangwaylaw24_PollClocks.go, Int.toNat_natCast, if_true, w64s (show i < 9223372036854775807 by omega)]
    by_cases hlt : (i : Int) < (P.length : Int)
    rotate_left
    · exact Ev.no hlt o
    refine Ev.yes hlt (Ev.yes (by omega) (Ev.inb (by omega) hlt ?_))
    by_cases h1 : (P.getD i z_api_Sub).Timeout < 0
    · exact Ev.yes h1 (ih (i + 1) S (by omega) (by omega) hS)
    refine Ev.no h1 (Ev.inb (by omega) hlt ?_)
    by_cases h2 : (P.getD i z_api_Sub).Timeout > 1125899906842624
    · exact Ev.yes h2 (ih (i + 1) S (by omega) (by omega) hS)
    refine Ev.no h2 (Ev.inb (by omega) hlt (Ev.inb (by omega) hlt (Ev.yes (by rw [List.length_cons, List.length_nil]; omega) ?_)))
    exact ih (i + 1) _ (by omega) (by rw [List.length_append, List.length_cons, List.length_nil]; omega) (clo_snoc hS _ _ (by omega) (by omega))
/-- How many of the first i come by a time. -/
def due (S : List api_Sub) (now : Int) (i : Nat) : Nat := ((List.range i).filter fun j => decide (wh (S.getD j z_api_Sub) now ≤ now)).length
def same (S : List api_Sub) (now m : Int) (i : Nat) : Nat := ((List.range i).filter fun j => decide (wh (S.getD j z_api_Sub) now = m)).length
theorem due_succ (i : Nat) : due S now (i + 1) = due S now i + if wh (S.getD i z_api_Sub) now ≤ now then 1 else 0 := by
  unfold due
  rw [List.range_succ, List.filter_append, List.length_append]
  congr 1
  by_cases h : wh (S.getD i z_api_Sub) now ≤ now
  · rw [List.filter_cons, if_pos (decide_eq_true h), if_pos h]; rfl
  · rw [List.filter_cons, if_neg (by rw [decide_eq_false h]; decide), if_neg h]; rfl
theorem same_succ (m : Int) (i : Nat) : same S now m (i + 1) = same S now m i + if wh (S.getD i z_api_Sub) now = m then 1 else 0 := by
  unfold same
  rw [List.range_succ, List.filter_append, List.length_append]
  congr 1
  by_cases h : wh (S.getD i z_api_Sub) now = m
  · rw [List.filter_cons, if_pos (decide_eq_true h), if_pos h]; rfl
  · rw [List.filter_cons, if_neg (by rw [decide_eq_false h]; decide), if_neg h]; rfl
theorem due_le (i : Nat) : due S now i ≤ i := by
  unfold due
  exact Nat.le_trans (List.length_filter_le _ _) (by rw [List.length_range]; exact Nat.le_refl _)
theorem same_le (m : Int) (i : Nat) : same S now m i ≤ i := by
  unfold same
  exact Nat.le_trans (List.length_filter_le _ _) (by rw [List.length_range]; exact Nat.le_refl _)
/-- The least time of the first i. -/
def LeastW (S : List api_Sub) (now : Int) (i : Nat) (m : Int) : Prop := (i = 0 ∧ m = -1) ∨ ((∃ j, j < i ∧ wh (S.getD j z_api_Sub) now = m) ∧ ∀ j, j < i → m ≤ wh (S.getD j z_api_Sub) now)
theorem clocks_s19 (h : OkA S now (List.replicate S.length z_api_Event)) (fin : ∀ m, LeastW S now S.length m → Ev (fun k => gangwaylaw24_PollClocks.go k (.s28 X a m (due S now S.length : Int) 0 0 P now Q S x)) r) : ∀ (d i : Nat) (m : Int), i + d = S.length → LeastW S now i m → Ev (fun k => gangwaylaw24_PollClocks.go k (.s19 X a m (due S now i : Int) (i : Int) P now Q S x)) r
  | 0, i, m, hi, hm => by
    have hi : i = S.length := by omega
    subst hi
    refine Ev.step ?_
    simp only [gangwaylaw24_PollClocks.go]
    exact Ev.no (by omega) (fin m hm)
  | d + 1, i, m, hi, hm => by
    have hl2 := h.2.2.1
    have hd := due_le (S := S) (now := now) i
    have hb := wh_bd h (show i < S.length by omega)
    have in1 : ∀ (y : Option Bool), inB (i : Int) S.length y = y := fun y => inB_of (by omega) (by omega)
    have next := fun m' hm' => clocks_s19 h fin d (i + 1) m' (by omega) hm'
    rw [due_succ] at next
    refine Ev.step ?_
    simp only [gangwaylaw24_PollClocks.go, in1, Int.toNat_natCast, at_ok h (show i < S.length by omega) _ _ rfl, Option.bind_some, w64s (show i < 9223372036854775807 by omega), w64s (show due S now i < 9223372036854775807 by omega)]
    refine Ev.yes (by omega) ?_
    have fork : ∀ m', LeastW S now (i + 1) m' → Ev (fun k => if wh (S.getD i z_api_Sub) now ≤ now then gangwaylaw24_PollClocks.go k (.s19 X a m' ((due S now i + 1 : Nat) : Int) ((i + 1 : Nat) : Int) P now Q S x) else gangwaylaw24_PollClocks.go k (.s19 X a m' (due S now i : Int) ((i + 1 : Nat) : Int) P now Q S x)) r := fun m' hm' => by
      have n := next m' hm'
      by_cases hle : wh (S.getD i z_api_Sub) now ≤ now
      · rw [if_pos hle] at n; exact Ev.yes hle n
      · rw [if_neg hle] at n; exact Ev.no hle n
    have new : (m < 0 ∨ wh (S.getD i z_api_Sub) now < m) → LeastW S now (i + 1) (wh (S.getD i z_api_Sub) now) := fun hc => .inr ⟨⟨i, Nat.lt_succ_self _, rfl⟩, fun j hj => by
      by_cases e : j = i
      · rw [e]; exact Int.le_refl _
      · rcases hm with ⟨e0, _⟩ | ⟨⟨q, hq, e1⟩, h2⟩
        · omega
        · have := h2 j (by omega)
          have := (wh_bd h (show q < S.length by omega)).1
          omega⟩
    by_cases h0 : m < 0
    · exact Ev.yes h0 (fork _ (new (.inl h0)))
    refine Ev.no h0 ?_
    by_cases h1 : wh (S.getD i z_api_Sub) now < m
    · exact Ev.yes h1 (fork _ (new (.inr h1)))
    refine Ev.no h1 (fork m (.inr ?_))
    rcases hm with ⟨e0, e1⟩ | ⟨⟨q, hq, e1⟩, h2⟩
    · omega
    · refine ⟨⟨q, by omega, e1⟩, fun j hj => ?_⟩
      by_cases e : j = i
      · rw [e]; omega
      · exact h2 j (by omega)
theorem clocks_s28 (h : OkA S now (List.replicate S.length z_api_Event)) {m : Int} {D : Nat} (fin : Ev (fun k => gangwaylaw24_PollClocks.go k (.s35 X a m (D : Int) 0 P now Q S x)) r) (h1 : 0 < D → x.length = D) (h2 : D = 0 → x.length = same S now m S.length) : ∀ (d i : Nat), i + d = S.length → Ev (fun k => gangwaylaw24_PollClocks.go k (.s28 X a m (D : Int) (same S now m i : Int) (i : Int) P now Q S x)) r
  | 0, i, hi => by
    have hi : i = S.length := by omega
    subst hi
    refine Ev.step ?_
    simp only [gangwaylaw24_PollClocks.go]
    refine Ev.no (by omega) ?_
    by_cases hD : D = 0
    · exact Ev.no (by omega) (Ev.yes (by omega) (Ev.no (fun hc => hc (by rw [h2 hD])) fin))
    · exact Ev.yes (by omega) (Ev.no (fun hc => hc (by rw [h1 (by omega)])) (Ev.no (by omega) fin))
  | d + 1, i, hi => by
    have hl2 := h.2.2.1
    have hd := same_le (S := S) (now := now) m i
    have in1 : ∀ (y : Option Bool), inB (i : Int) S.length y = y := fun y => inB_of (by omega) (by omega)
    have next := clocks_s28 h fin h1 h2 d (i + 1) (by omega)
    rw [same_succ] at next
    refine Ev.step ?_
    simp only [gangwaylaw24_PollClocks.go, in1, Int.toNat_natCast, at_ok h (show i < S.length by omega) _ _ rfl, Option.bind_some, w64s (show i < 9223372036854775807 by omega), w64s (show same S now m i < 9223372036854775807 by omega)]
    refine Ev.yes (by omega) ?_
    by_cases hle : wh (S.getD i z_api_Sub) now = m
    · rw [if_pos hle] at next; exact Ev.yes hle next
    · rw [if_neg hle] at next; exact Ev.no hle next
/-- The last loop: each event's clock. -/
theorem clocks_s35 (h : OkA S now (List.replicate S.length z_api_Event)) {m : Int} {D : Nat} {U : Nat → Nat} (hxl : x.length ≤ 1000) (hU : ∀ i, i < x.length → U i < S.length ∧ x.getD i z_api_Event = ⟨(U i : Int), 0, 0, 0⟩)
    (h0 : D = 0 → ∀ i, i < x.length → wh (S.getD (U i) z_api_Sub) now = m) (h1 : 0 < D → ∀ i, i < x.length → wh (S.getD (U i) z_api_Sub) now ≤ now)
    (h2 : ∀ i, i + 1 < x.length → wh (S.getD (U i) z_api_Sub) now < wh (S.getD (U (i + 1)) z_api_Sub) now ∨ wh (S.getD (U i) z_api_Sub) now = wh (S.getD (U (i + 1)) z_api_Sub) now ∧ U i < U (i + 1))
    (fin : Ev (fun k => gangwaylaw24_PollClocks.go k (.s2 X (IntKind.i64.wrap (a + 1)))) true) : ∀ (d i : Nat), i + d = x.length → Ev (fun k => gangwaylaw24_PollClocks.go k (.s35 X a m (D : Int) (i : Int) P now Q S x)) true
  | 0, i, hi => by
    refine Ev.step ?_
    simp only [gangwaylaw24_PollClocks.go]
    exact Ev.no (by omega) fin
  | d + 1, i, hi => by
    have next := clocks_s35 h hxl hU h0 h1 h2 fin d (i + 1) (by omega)
    obtain ⟨hu, hx⟩ := hU i (by omega)
    have in1 : ∀ (y : Option Bool), inB (i : Int) x.length y = y := fun y => inB_of (by omega) (by omega)
    have in2 : ∀ (y : Option Bool), inB (U i : Int) S.length y = y := fun y => inB_of (by omega) (by omega)
    refine Ev.step ?_
    simp only [gangwaylaw24_PollClocks.go, in1, Int.toNat_natCast, hx, in2, at_ok h hu _ _ rfl, Option.bind_some, w64s (show i < 9223372036854775807 by omega), beq_self_eq_true, Bool.and_self, Bool.not_true]
    refine Ev.yes (by omega) (Ev.no (by omega) (Ev.no (by omega) (Ev.no (by decide) ?_)))
    -- what comes behind the first one
    have tail : ∀ {G : Nat → Option Bool} {i' : Int}, i' = (i : Int) → (0 < i → Ev G true) → Ev (fun k => if i' > (0 : Int) then G k else gangwaylaw24_PollClocks.go k (.s35 X a m (D : Int) ((i + 1 : Nat) : Int) P now Q S x)) true := fun e hG => by
      subst e
      by_cases hp : 0 < i
      · exact Ev.yes (by omega) (hG hp)
      · exact Ev.no (by omega) next
    have prev : 0 < i → Ev (fun k => inB (IntKind.i64.wrap ((i : Int) - 1)) x.length <|
        inB ((x.getD ((IntKind.i64.wrap ((i : Int) - 1))).toNat z_api_Event).User) S.length <|
        (gangwaylaw24_at.f k ((S.getD (((x.getD ((IntKind.i64.wrap ((i : Int) - 1))).toNat z_api_Event).User).toNat) z_api_Sub).User) ((S.getD (((x.getD ((IntKind.i64.wrap ((i : Int) - 1))).toNat z_api_Event).User).toNat) z_api_Sub).Kind) ((S.getD (((x.getD ((IntKind.i64.wrap ((i : Int) - 1))).toNat z_api_Event).User).toNat) z_api_Sub).Fd) ((S.getD (((x.getD ((IntKind.i64.wrap ((i : Int) - 1))).toNat z_api_Event).User).toNat) z_api_Sub).Timeout) ((S.getD (((x.getD ((IntKind.i64.wrap ((i : Int) - 1))).toNat z_api_Event).User).toNat) z_api_Sub).Abs) now).bind fun r73 =>
        if r73 > wh (S.getD (U i) z_api_Sub) now then some false else
        inB ((x.getD ((IntKind.i64.wrap ((i : Int) - 1))).toNat z_api_Event).User) S.length <|
        (gangwaylaw24_at.f k ((S.getD (((x.getD ((IntKind.i64.wrap ((i : Int) - 1))).toNat z_api_Event).User).toNat) z_api_Sub).User) ((S.getD (((x.getD ((IntKind.i64.wrap ((i : Int) - 1))).toNat z_api_Event).User).toNat) z_api_Sub).Kind) ((S.getD (((x.getD ((IntKind.i64.wrap ((i : Int) - 1))).toNat z_api_Event).User).toNat) z_api_Sub).Fd) ((S.getD (((x.getD ((IntKind.i64.wrap ((i : Int) - 1))).toNat z_api_Event).User).toNat) z_api_Sub).Timeout) ((S.getD (((x.getD ((IntKind.i64.wrap ((i : Int) - 1))).toNat z_api_Event).User).toNat) z_api_Sub).Abs) now).bind fun r75 =>
        if r75 = wh (S.getD (U i) z_api_Sub) now then if ((x.getD ((IntKind.i64.wrap ((i : Int) - 1))).toNat z_api_Event).User) ≥ (U i : Int) then some false else gangwaylaw24_PollClocks.go k (.s35 X a m (D : Int) ((i + 1 : Nat) : Int) P now Q S x) else gangwaylaw24_PollClocks.go k (.s35 X a m (D : Int) ((i + 1 : Nat) : Int) P now Q S x)) true := fun hp => by
      obtain ⟨p, rfl⟩ : ∃ p, i = p + 1 := ⟨i - 1, by omega⟩
      obtain ⟨hv, hxp⟩ := hU p (by omega)
      have e : IntKind.i64.wrap (((p + 1 : Nat) : Int) - 1) = (p : Int) := by rw [w64 (by omega) (by omega)]; omega
      have in3 : ∀ (y : Option Bool), inB (p : Int) x.length y = y := fun y => inB_of (by omega) (by omega)
      have in4 : ∀ (y : Option Bool), inB (U p : Int) S.length y = y := fun y => inB_of (by omega) (by omega)
      simp only [e, Int.toNat_natCast, hxp, in3, in4, at_ok h hv _ _ rfl, Option.bind_some]
      have hh := h2 p (by omega)
      refine Ev.no (by show ¬ (wh (S.getD (U p) z_api_Sub) now > wh (S.getD (U (p + 1)) z_api_Sub) now); omega) ?_
      by_cases he : wh (S.getD (U p) z_api_Sub) now = wh (S.getD (U (p + 1)) z_api_Sub) now
      · exact Ev.yes he (Ev.no (by omega) next)
      · exact Ev.no he next
    by_cases hD : D = 0
    · have e1 := h0 hD i (by omega)
      refine Ev.yes (by omega) (Ev.no (fun hc => hc e1) (Ev.no (by omega) (tail rfl prev)))
    · have e1 := h1 (by omega) i (by omega)
      exact Ev.no (by omega) (Ev.yes (by omega) (Ev.no (by show ¬ (wh (S.getD (U i) z_api_Sub) now > now); omega) (tail rfl prev)))
end
theorem perm_len {α : Type} {A B : List α} (hA : A.Nodup) (hB : B.Nodup) (h : ∀ x, x ∈ A ↔ x ∈ B) : A.length = B.length := by
  have h1 := nodup_len hA (fun x hx => (h x).1 hx)
  have h2 := nodup_len hB (fun x hx => (h x).2 hx)
  omega
theorem clocks_loop (X : List gangwaylaw24_Ask) : ∀ (d i : Nat), i + d = 10 → Ev (fun k => gangwaylaw24_PollClocks.go k (.s2 X (i : Int))) true := by
  intro d
  induction d with
  | zero =>
    intro i hi
    refine Ev.step ?_
    simp only [gangwaylaw24_PollClocks.go]
    refine ev_ite.2 ?_
    split
    · exact Ev.no (by omega) (Ev.bd wakes_ok Ev.ret)
    · exact Ev.bd wakes_ok Ev.ret
  | succ d ih =>
    intro i hi
    have next := ih (i + 1) (by omega)
    have next' : Ev (fun k => gangwaylaw24_PollClocks.go k (.s2 X (IntKind.i64.wrap ((i : Int) + 1)))) true := by rw [w64s (show i < 9223372036854775807 by omega)]; exact next
    refine Ev.step ?_
    simp only [gangwaylaw24_PollClocks.go, Int.toNat_natCast]
    by_cases hlt : (i : Int) < (X.length : Int)
    rotate_left
    · exact Ev.no hlt (Ev.bd wakes_ok Ev.ret)
    refine Ev.yes hlt (Ev.yes (by omega) (Ev.inb (by omega) hlt ?_))
    obtain ⟨L, now, R⟩ := X.getD i z_gangwaylaw24_Ask
    simp only
    by_cases h1 : (L.length : Int) > 100
    · exact Ev.yes h1 next'
    by_cases h2 : now < 0
    · exact Ev.no h1 (Ev.yes h2 next')
    by_cases h3 : now > 1125899906842624
    · exact Ev.no h1 (Ev.no h2 (Ev.yes h3 next'))
    refine Ev.no h1 (Ev.no h2 (Ev.no h3 ?_))
    refine clocks_s8 (by omega) next' (fun S hS hp hl => ?_) 32 0 [] rfl (Nat.le_refl _) (fun j hj => absurd hj (Nat.not_lt_zero _))
    have ok : OkA S now (List.replicate S.length z_api_Event) := ⟨by omega, hp, hl, List.length_replicate, fun j hj => by
      obtain ⟨_, hK, ht⟩ := hS j hj
      exact ⟨by omega, by omega, ht⟩⟩
    obtain ⟨x, hx, hE⟩ := porder ok
    refine ⟨x, hE, ?_⟩
    obtain ⟨T, O, hT, hO, rfl⟩ := hx
    have hf : fdl S (List.replicate S.length z_api_Event) S.length = [] := by
      unfold fdl
      rw [List.filter_eq_nil_iff.2 (fun j hj => ?_)]
      · rfl
      · have : isC S j = true := decide_eq_true (hS j (List.mem_range.1 hj)).2.1
        rw [this]; decide
    rw [hf, List.nil_append]
    obtain ⟨m, hm1, hm2, hT⟩ : ∃ m, (∃ c ∈ clk S now S.length, c.when_ = m) ∧ (∀ c ∈ clk S now S.length, m ≤ c.when_) ∧ T = if now < m then m else now := by
      rcases hT with ⟨h4, _⟩ | ⟨_, h4⟩
      · exact absurd hf h4
      · exact h4
    have hnd : O.Nodup := List.Pairwise.imp (fun {a b} h e => by subst e; rw [alt_irr] at h; cases h) hO.1
    have memO : ∀ c, c ∈ O ↔ ∃ j, j < S.length ∧ c = al S now j ∧ wh (S.getD j z_api_Sub) now ≤ T := fun c => by
      rw [hO.2, mem_clk]
      constructor
      · rintro ⟨⟨j, h4, h5, rfl⟩, h6⟩; exact ⟨j, h4, rfl, h6⟩
      · rintro ⟨j, h4, rfl, h6⟩; exact ⟨⟨j, h4, (hS j h4).2.1, rfl⟩, h6⟩
    have key : ∀ p : Nat → Bool, (∀ j, j < S.length → (p j = true ↔ wh (S.getD j z_api_Sub) now ≤ T)) → O.length = ((List.range S.length).filter p).length := fun p hp => by
      rw [← List.length_map (f := al S now)]
      refine perm_len hnd (List.pairwise_map.2 (List.Pairwise.imp (fun h e => h (al_inj e)) (List.Pairwise.filter _ List.nodup_range))) (fun c => ?_)
      rw [memO, List.mem_map]
      constructor
      · rintro ⟨j, h4, rfl, h6⟩; exact ⟨j, List.mem_filter.2 ⟨List.mem_range.2 h4, (hp j h4).2 h6⟩, rfl⟩
      · rintro ⟨j, h4, rfl⟩
        rw [List.mem_filter, List.mem_range] at h4
        exact ⟨j, h4.1, rfl, (hp j h4.1).1 h4.2⟩
    obtain ⟨c0, hc0, hcm⟩ := hm1
    obtain ⟨j0, hj0, _, rfl⟩ := mem_clk.1 hc0
    have hcm : wh (S.getD j0 z_api_Sub) now = m := hcm
    have hmin : ∀ j, j < S.length → m ≤ wh (S.getD j z_api_Sub) now := fun j hj => hm2 (al S now j) (mem_clk.2 ⟨j, hj, (hS j hj).2.1, rfl⟩)
    have hol : O.length ≤ 32 := by
      have := nodup_len hnd (fun x hx => ((hO.2 x).1 hx).1)
      have h5 := clk_len (L := S) (now := now) (R := List.replicate S.length z_api_Event) S.length
      omega
    have hfin : ∀ m', LeastW S now S.length m' → m' = m := fun m' h4 => by
      rcases h4 with ⟨e, _⟩ | ⟨⟨q, hq, e1⟩, h5⟩
      · omega
      · have := h5 j0 hj0
        have := hmin q hq
        omega
    have hdue : ∀ j, j < S.length → wh (S.getD j z_api_Sub) now ≤ now → 0 < due S now S.length := fun j hj hle => by
      unfold due
      exact List.length_pos_of_mem (List.mem_filter.2 ⟨List.mem_range.2 hj, decide_eq_true hle⟩)
    have hdue2 : 0 < due S now S.length → m ≤ now := fun hp => by
      unfold due at hp
      obtain ⟨j, hj⟩ := List.exists_mem_of_length_pos hp
      rw [List.mem_filter, List.mem_range, decide_eq_true_eq] at hj
      have := hmin j hj.1
      omega
    have hTd : 0 < due S now S.length → T = now := fun hp => by
      have := hdue2 hp
      rw [hT, if_neg (by omega)]
    have hTs : due S now S.length = 0 → T = m := fun h0 => by
      have : ¬ m ≤ now := fun hle => by
        have := hdue j0 hj0 (by omega)
        omega
      rw [hT, if_pos (by omega)]
    refine clocks_s19 ok (fun m' hm' => ?_) S.length 0 (-1) (by omega) (.inl ⟨rfl, rfl⟩)
    obtain rfl := hfin m' hm'
    have gO : ∀ q, q < O.length → ∃ j, j < S.length ∧ O.getD q z_poll_alarm = al S now j ∧ wh (S.getD j z_api_Sub) now ≤ T := fun q hq => by
      refine (memO _).1 ?_
      rw [List.getD_eq_getElem?_getD, List.getElem?_eq_getElem hq]
      exact List.getElem_mem hq
    have at_U : ∀ q, q < O.length → (O.getD q z_poll_alarm).at_.toNat < S.length ∧ O.getD q z_poll_alarm = al S now (O.getD q z_poll_alarm).at_.toNat ∧ wh (S.getD (O.getD q z_poll_alarm).at_.toNat z_api_Sub) now ≤ T := fun q hq => by
      obtain ⟨j, h4, h5, h6⟩ := gO q hq
      rw [h5]
      exact ⟨h4, rfl, h6⟩
    refine clocks_s28 ok ?_ (fun hp => ?_) (fun h0 => ?_) S.length 0 (by omega)
    · refine clocks_s35 (U := fun q => (O.getD q z_poll_alarm).at_.toNat) ok (by rw [List.length_map]; omega) (fun q hq => ?_) (fun h0 q hq => ?_) (fun hp q hq => ?_) (fun q hq => ?_) next' _ 0 (Nat.zero_add _)
      · rw [List.length_map] at hq
        obtain ⟨h4, h5, h6⟩ := at_U q hq
        refine ⟨h4, ?_⟩
        rw [List.getD_eq_getElem?_getD, List.getElem?_map, List.getElem?_eq_getElem hq]
        have e9 : O[q] = O.getD q z_poll_alarm := by rw [List.getD_eq_getElem?_getD, List.getElem?_eq_getElem hq]; rfl
        show evt S O[q] = _
        rw [e9]
        unfold evt
        rw [(hS _ h4).1]
      · rw [List.length_map] at hq
        obtain ⟨h4, h5, h6⟩ := at_U q hq
        have := hmin _ h4
        have := hTs h0
        omega
      · rw [List.length_map] at hq
        obtain ⟨h4, h5, h6⟩ := at_U q hq
        have := hTd hp
        omega
      · rw [List.length_map] at hq
        obtain ⟨h4, h5, h6⟩ := at_U q (by omega)
        obtain ⟨h7, h8, h9⟩ := at_U (q + 1) hq
        have hpw := List.pairwise_iff_getElem.1 hO.1 q (q + 1) (by omega) hq (by omega)
        have e9 : ∀ p, (hp : p < O.length) → O[p] = O.getD p z_poll_alarm := fun p hp => by rw [List.getD_eq_getElem?_getD, List.getElem?_eq_getElem hp]; rfl
        rw [e9 q (by omega), e9 (q + 1) hq, h5, h8, alt_t] at hpw
        have hpw : wh (S.getD (O.getD q z_poll_alarm).at_.toNat z_api_Sub) now < wh (S.getD (O.getD (q + 1) z_poll_alarm).at_.toNat z_api_Sub) now ∨ wh (S.getD (O.getD q z_poll_alarm).at_.toNat z_api_Sub) now = wh (S.getD (O.getD (q + 1) z_poll_alarm).at_.toNat z_api_Sub) now ∧ (((O.getD q z_poll_alarm).at_.toNat : Nat) : Int) < (((O.getD (q + 1) z_poll_alarm).at_.toNat : Nat) : Int) := hpw
        show wh (S.getD (O.getD q z_poll_alarm).at_.toNat z_api_Sub) now < wh (S.getD (O.getD (q + 1) z_poll_alarm).at_.toNat z_api_Sub) now ∨ wh (S.getD (O.getD q z_poll_alarm).at_.toNat z_api_Sub) now = wh (S.getD (O.getD (q + 1) z_poll_alarm).at_.toNat z_api_Sub) now ∧ (O.getD q z_poll_alarm).at_.toNat < (O.getD (q + 1) z_poll_alarm).at_.toNat
        omega
    · rw [List.length_map]
      unfold due
      exact key _ (fun j hj => by rw [decide_eq_true_eq, hTd hp])
    · rw [List.length_map]
      unfold same
      exact key _ (fun j hj => by
        have := hmin j hj
        have := hTs h0
        rw [decide_eq_true_eq]
        omega)
theorem pure_PollClocks (X : List gangwaylaw24_Ask) (h : X.length * 56 ≤ 140737488351232 ∧ ∀ y ∈ X, ok_gangwaylaw24_Ask y) : ∃ k, gangwaylaw24_PollClocks.f k X = some true := Ev.get (clocks_loop X 10 0 rfl)
end Go.Proofs.Ytiikmhomlhgobaa.Den
