/- What comes first of any subscriptions is the reference's, or refused: the law's function, told in plain Lean, comes to true for every input. -/
import Derived.Test.YtiikmhomlhgobaaQLaw
set_option linter.unusedVariables false
set_option linter.unusedSimpArgs false
namespace Go.Proofs.Ytiikmhomlhgobaa.Den
open Go Go.Proofs.YtiikmhomlhgobaaM Go.HeapT
theorem exact_loop (X : List gangwaylaw24_Ask) : ∀ (d i : Nat), i + d = 10 → Ev (fun k => gangwaylaw24_PollExact.go k (.s2 X (i : Int))) true := by
  intro d
  induction d with
  | zero =>
    intro i hi
    refine Ev.step ?_
    simp only [gangwaylaw24_PollExact.go]
    refine ev_ite.2 ?_
    split
    · exact Ev.no (by omega) (Ev.bd wakes_ok Ev.ret)
    · exact Ev.bd wakes_ok Ev.ret
  | succ d ih =>
    intro i hi
    have next := ih (i + 1) (by omega)
    refine Ev.step ?_
    simp only [gangwaylaw24_PollExact.go, Int.toNat_natCast, w64s (show i < 9223372036854775807 by omega)]
    by_cases hlt : (i : Int) < (X.length : Int)
    rotate_left
    · exact Ev.no hlt (Ev.bd wakes_ok Ev.ret)
    refine Ev.yes hlt (Ev.yes (by omega) (Ev.inb (by omega) hlt ?_))
    obtain ⟨L, now, R⟩ := X.getD i z_gangwaylaw24_Ask
    simp only
    by_cases h1 : (L.length : Int) > 100
    · exact Ev.yes h1 Ev.ret
    by_cases h2 : (R.length : Int) > 100
    · exact Ev.no h1 (Ev.yes h2 Ev.ret)
    refine Ev.no h1 (Ev.no h2 ?_)
    obtain ⟨b, hb, hok⟩ := rmay (L := L) (now := now) (R := R) (by omega)
    refine Ev.bd hb ?_
    cases b with
    | true =>
      have ok := hok.1 rfl
      obtain ⟨x, hx, hE⟩ := porder ok
      obtain ⟨y, hy, hF⟩ := rorder ok
      obtain rfl := ans_uniq hx hy
      have hxl := ans_len hx
      refine Ev.yes rfl (Ev.bd hF (Ev.bd (copySubs (by omega)) (Ev.bd (copyEvents (by omega)) (Ev.bd hE ?_))))
      simp only [gangwaylaw24_num.f, Option.bind_some]
      exact Ev.no (by simp) (Ev.bd (eqEvents (by omega)) (Ev.no (by decide) (Ev.bd (eqSubs (by omega)) (Ev.no (by decide) (Ev.bd (eqEvents (by omega)) (Ev.no (by decide) next))))))
    | false =>
      have ok : ¬ OkA L now R := fun h => by have := hok.2 h; cases this
      refine Ev.no (by decide) (Ev.bd (copySubs (by omega)) (Ev.bd (copyEvents (by omega)) (Ev.bd (porder_no (by omega) ok) ?_)))
      simp only [gangwaylaw24_num.f, Option.bind_some]
      exact Ev.no (by simp) (Ev.bd (eqEvents (l := []) (by simp)) (Ev.no (by decide) (Ev.bd (eqSubs (by omega)) (Ev.no (by decide) (Ev.bd (eqEvents (by omega)) (Ev.no (by decide) next))))))
theorem pure_PollExact (X : List gangwaylaw24_Ask) (h : X.length * 56 ≤ 140737488351232 ∧ ∀ y ∈ X, ok_gangwaylaw24_Ask y) : ∃ k, gangwaylaw24_PollExact.f k X = some true := Ev.get (exact_loop X 10 0 rfl)
end Go.Proofs.Ytiikmhomlhgobaa.Den
