/- Clocks in a heap: what is pushed and popped. -/
import Derived.Test.YtiikmhomlhgobaaF
import Derived.Test.YtiikmhomlhgobaaD19
import Derived.Test.YtiikmhomlhgobaaHeap
set_option linter.unusedVariables false
set_option linter.unusedSimpArgs false
namespace Go.Proofs.Ytiikmhomlhgobaa.Den
open Go Go.Proofs.YtiikmhomlhgobaaM Go.HeapT
/-- One clock comes ahead of another one. -/
def alt (a b : poll_alarm) : Bool := decide (a.when_ < b.when_ ∨ a.when_ = b.when_ ∧ a.at_ < b.at_)
theorem alt_t {a b : poll_alarm} : alt a b = true ↔ (a.when_ < b.when_ ∨ a.when_ = b.when_ ∧ a.at_ < b.at_) := by simp [alt]
theorem alt_f {a b : poll_alarm} : alt a b = false ↔ ¬ (a.when_ < b.when_ ∨ a.when_ = b.when_ ∧ a.at_ < b.at_) := by simp [alt]
theorem alt1 (a b : poll_alarm) (h : alt a b = true) : alt b a = false := by
  rw [alt_t] at h
  rw [alt_f]
  omega
theorem alt2 (a b c : poll_alarm) (h : alt b a = false) (h2 : alt c b = false) : alt c a = false := by
  rw [alt_f] at *
  omega
theorem less_ok (k : Nat) (l : List poll_alarm) {i j : Nat} (hi : i < l.length) (hj : j < l.length) : poll_alarms_Less.f k l (i : Int) (j : Int) = some (alt (l.getD i z_poll_alarm) (l.getD j z_poll_alarm)) := by
  have h1 : ∀ (x : Option Bool), inB (i : Int) l.length x = x := fun x => inB_of (by omega) (by omega)
  have h2 : ∀ (x : Option Bool), inB (j : Int) l.length x = x := fun x => inB_of (by omega) (by omega)
  unfold poll_alarms_Less.f
  simp only [h1, h2, Int.toNat_natCast]
  by_cases h : (l.getD i z_poll_alarm).when_ < (l.getD j z_poll_alarm).when_
  · rw [if_pos h, alt_t.2 (.inl h)]
  · rw [if_neg h]
    by_cases h3 : (l.getD i z_poll_alarm).when_ = (l.getD j z_poll_alarm).when_
    · rw [if_pos h3]
      congr 1
      unfold alt
      congr 1
      apply propext
      omega
    · rw [if_neg h3, alt_f.2 (by omega)]
theorem swap_ok (k : Nat) (l : List poll_alarm) {i j : Nat} (hi : i < l.length) (hj : j < l.length) : poll_alarms_Swap.f k (i : Int) (j : Int) l = some (hswap z_poll_alarm l i j) := by
  unfold poll_alarms_Swap.f
  rw [inB_of (by omega) (by omega), inB_of (by omega) (by omega), inB_of (by omega) (by omega), inB_of (by omega) (by simp; omega)]
  simp only [Int.toNat_natCast]
  rfl
theorem par (j : Nat) (h : j < 1000000000) : IntKind.i64.wrap ((IntKind.i64.wrap ((j : Int) - 1)).tdiv 2) = (((j - 1) / 2 : Nat) : Int) := by
  cases j with
  | zero => decide
  | succ j =>
    rw [w64 (x := ((j + 1 : Nat) : Int) - 1) (by omega) (by omega), Int.tdiv_eq_ediv_of_nonneg (by omega), w64 (by omega) (by omega)]
    omega
theorem up_ok : ∀ (n j : Nat) (l : List poll_alarm), j < n → j < l.length → l.length < 1000000000 → Ev (fun k => heap_up.go k (.s0 (j : Int) l)) (hup alt z_poll_alarm n l j)
  | 0, j, l, h, _, _ => absurd h (Nat.not_lt_zero _)
  | n + 1, j, l, hn, hj, hl => by
    refine Ev.step ?_
    simp only [heap_up.go, par j (by omega)]
    refine Ev.no (by decide) ?_
    unfold hup
    by_cases h0 : (j - 1) / 2 = j
    · rw [if_pos (.inl h0)]
      exact Ev.yes (by omega) Ev.ret
    · refine Ev.no (by omega) ?_
      simp only [less_ok _ l hj (show (j - 1) / 2 < l.length by omega), swap_ok _ l (show (j - 1) / 2 < l.length by omega) hj, Option.bind_some]
      cases hlt : alt (l.getD j z_poll_alarm) (l.getD ((j - 1) / 2) z_poll_alarm) with
      | false =>
        rw [if_pos (.inr rfl)]
        exact Ev.yes rfl Ev.ret
      | true =>
        rw [if_neg (by simp [h0])]
        refine Ev.no (by decide) ?_
        exact up_ok n _ _ (by omega) (by rw [hswap_len]; omega) (by rw [hswap_len]; exact hl)
theorem push_ok (l : List poll_alarm) (a b : Int) (hl : l.length < 1000000) : Ev (fun k => heap_Push.f k a b l) (hpush alt z_poll_alarm l ⟨a, b⟩) := by
  unfold heap_Push.f poll_alarms_Push.f poll_alarms_Len.f heap_up.f
  have h1 : l.length + [(⟨a, b⟩ : poll_alarm)].length ≤ 8796093022208 := by rw [List.length_cons, List.length_nil]; omega
  have h2 : IntKind.i64.wrap (((l ++ [(⟨a, b⟩ : poll_alarm)]).length : Int) - 1) = (l.length : Int) := by
    rw [List.length_append, List.length_cons, List.length_nil, w64 (by omega) (by omega)]
    omega
  simp only [if_pos h1, Option.bind_some, h2]
  exact Ev.bd (up_ok (l.length + 1) l.length _ (by omega) (by simp) (by simp; omega)) Ev.ret
theorem down_ok : ∀ (m i n : Nat) (i0 : Int) (l : List poll_alarm), n ≤ m + i → n ≤ l.length → l.length < 1000000000 → i < 1000000000 → ∃ b, Ev (fun k => heap_down.go k (.s2 i0 (n : Int) (i : Int) l)) (b, hdown alt z_poll_alarm m l i n)
  | m, i, n, i0, l, hm, hn, hl, hi => by
    have e1 : IntKind.i64.wrap ((IntKind.i64.wrap ((2 : Int) * (i : Int))) + 1) = ((2 * i + 1 : Nat) : Int) := by
      rw [w64 (x := 2 * (i : Int)) (by omega) (by omega), w64 (by omega) (by omega)]
      omega
    have e2 : IntKind.i64.wrap (((2 * i + 1 : Nat) : Int) + 1) = ((2 * i + 2 : Nat) : Int) := by
      rw [w64 (by omega) (by omega)]
      omega
    by_cases h0 : n ≤ 2 * i + 1
    · have hd : hdown alt z_poll_alarm m l i n = l := by
        cases m with
        | zero => rfl
        | succ m => unfold hdown; rw [if_pos (.inl h0)]
      rw [hd]
      refine ⟨decide ((i : Int) > i0), Ev.step ?_⟩
      simp only [heap_down.go, e1]
      exact Ev.yes (by omega) Ev.ret
    · obtain ⟨m, rfl⟩ : ∃ m', m = m' + 1 := ⟨m - 1, by omega⟩
      obtain ⟨k1, k2, _⟩ := hkid_lt (lt := alt) (z := z_poll_alarm) (l := l) (i := i) (n := n) (by omega)
      have go : ∀ (j : Nat), j = hkid alt z_poll_alarm l i n → (∃ b, Ev (fun k => (poll_alarms_Less.f k l (j : Int) (i : Int)).bind fun r => if (!r) = true then some (decide ((i : Int) > i0), l) else (poll_alarms_Swap.f k (i : Int) (j : Int) l).bind fun r2 => heap_down.go k (.s2 i0 (n : Int) (j : Int) r2)) (b, hdown alt z_poll_alarm (m + 1) l i n)) := by
        intro j hj
        simp only [less_ok _ l (show j < l.length by omega) (show i < l.length by omega), swap_ok _ l (show i < l.length by omega) (show j < l.length by omega), Option.bind_some]
        unfold hdown
        rw [← hj]
        cases hlt : alt (l.getD j z_poll_alarm) (l.getD i z_poll_alarm) with
        | false =>
          rw [if_pos (.inr rfl)]
          exact ⟨decide ((i : Int) > i0), Ev.yes rfl Ev.ret⟩
        | true =>
          rw [if_neg (by simp only [Bool.true_eq_false, or_false]; omega)]
          obtain ⟨b, h⟩ := down_ok m j n i0 (hswap z_poll_alarm l i j) (by omega) (by rw [hswap_len]; exact hn) (by rw [hswap_len]; exact hl) (by omega)
          exact ⟨b, Ev.no (by decide) h⟩
      have one : (hkid alt z_poll_alarm l i n = 2 * i + 1) → ∃ b, Ev (fun k => (poll_alarms_Less.f k l ((2 * i + 1 : Nat) : Int) (i : Int)).bind fun r => if (!r) = true then some (decide ((i : Int) > i0), l) else (poll_alarms_Swap.f k (i : Int) ((2 * i + 1 : Nat) : Int) l).bind fun r2 => heap_down.go k (.s2 i0 (n : Int) ((2 * i + 1 : Nat) : Int) r2)) (b, hdown alt z_poll_alarm (m + 1) l i n) := fun h => go _ h.symm
      by_cases h2 : 2 * i + 2 < n
      · cases hlt : alt (l.getD (2 * i + 2) z_poll_alarm) (l.getD (2 * i + 1) z_poll_alarm) with
        | true =>
          obtain ⟨b, h⟩ := go (2 * i + 2) (by unfold hkid; rw [if_pos ⟨h2, hlt⟩])
          refine ⟨b, Ev.step ?_⟩
          simp only [heap_down.go, e1, e2]
          refine Ev.no (by omega) (Ev.no (by omega) (Ev.yes (by omega) ?_))
          simp only [less_ok _ l (show 2 * i + 2 < l.length by omega) (show 2 * i + 1 < l.length by omega), hlt, Option.bind_some, if_true]
          exact h
        | false =>
          obtain ⟨b, h⟩ := one (by unfold hkid; rw [hlt]; exact if_neg (fun h => by cases h.2))
          refine ⟨b, Ev.step ?_⟩
          simp only [heap_down.go, e1, e2]
          refine Ev.no (by omega) (Ev.no (by omega) (Ev.yes (by omega) ?_))
          simp only [less_ok _ l (show 2 * i + 2 < l.length by omega) (show 2 * i + 1 < l.length by omega), hlt, Option.bind_some, Bool.false_eq_true, if_false]
          exact h
      · obtain ⟨b, h⟩ := one (by unfold hkid; exact if_neg (fun h => h2 h.1))
        refine ⟨b, Ev.step ?_⟩
        simp only [heap_down.go, e1, e2]
        exact Ev.no (by omega) (Ev.no (by omega) (Ev.no (by omega) h))
theorem pop1_ok (k : Nat) (l : List poll_alarm) (h : 0 < l.length) (hl : l.length < 1000000000) : poll_alarms_Pop.f k l = some ((l.getD (l.length - 1) z_poll_alarm).when_, (l.getD (l.length - 1) z_poll_alarm).at_, l.take (l.length - 1)) := by
  unfold poll_alarms_Pop.f
  have e : IntKind.i64.wrap ((l.length : Int) - 1) = ((l.length - 1 : Nat) : Int) := by
    rw [w64 (by omega) (by omega)]
    omega
  simp only [e]
  rw [inB_of (by omega) (by omega), if_pos (by omega), if_pos (by omega)]
  simp only [Int.toNat_natCast]
theorem pop_ok (l : List poll_alarm) (h : 0 < l.length) (hl : l.length < 1000000) : Ev (fun k => heap_Pop.f k l) ((l.getD 0 z_poll_alarm).when_, (l.getD 0 z_poll_alarm).at_, hrest alt z_poll_alarm l) := by
  have e : IntKind.i64.wrap ((l.length : Int) - 1) = ((l.length - 1 : Nat) : Int) := by
    rw [w64 (by omega) (by omega)]
    omega
  have hs : ∀ k, poll_alarms_Swap.f k (0 : Int) ((l.length - 1 : Nat) : Int) l = some (hswap z_poll_alarm l 0 (l.length - 1)) := fun k => swap_ok k l h (by omega)
  obtain ⟨b, hd⟩ := down_ok l.length 0 (l.length - 1) 0 (hswap z_poll_alarm l 0 (l.length - 1)) (by omega) (by rw [hswap_len]; omega) (by rw [hswap_len]; omega) (by omega)
  unfold heap_Pop.f poll_alarms_Len.f heap_down.f
  simp only [Option.bind_some, e, hs]
  refine Ev.bd hd ?_
  obtain ⟨hp, hq⟩ := hdown_perm (lt := alt) (z := z_poll_alarm) l.length (hswap z_poll_alarm l 0 (l.length - 1)) 0 (l.length - 1) (by rw [hswap_len]; omega)
  have hlen : (hdown alt z_poll_alarm l.length (hswap z_poll_alarm l 0 (l.length - 1)) 0 (l.length - 1)).length = l.length := by rw [hdown_len, hswap_len]
  simp only [pop1_ok _ _ (show 0 < (hdown alt z_poll_alarm l.length (hswap z_poll_alarm l 0 (l.length - 1)) 0 (l.length - 1)).length by omega) (by omega), Option.bind_some, hlen, hq (l.length - 1) (Nat.le_refl _)]
  have hg : (hswap z_poll_alarm l 0 (l.length - 1)).getD (l.length - 1) z_poll_alarm = l.getD 0 z_poll_alarm := by
    rw [hswap_get h (by omega)]
    rw [if_pos rfl]
  rw [hg]
  exact Ev.ret
end Go.Proofs.Ytiikmhomlhgobaa.Den
