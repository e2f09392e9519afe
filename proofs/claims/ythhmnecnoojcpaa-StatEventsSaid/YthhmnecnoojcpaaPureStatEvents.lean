/- The bytes that stat tells of any event are the reference's, or refused: with the rows beside it, for every list of asks. -/
import Derived.Test.YthhmnecnoojcpaaPAllx3
import Derived.Test.YthhmnecnoojcpaaPAllx1
import Derived.Test.YthhmnecnoojcpaaPAllx2
import Derived.Test.YthhmnecnoojcpaaQSet
namespace Go.Proofs.Ythhmnecnoojcpaa.Pure
open Go.RowKit Go.Proofs.Ythhmnecnoojcpaa.PAll Go.Proofs.YthhmnecnoojcpaaW.PrintWords Go.Proofs.YthhmnecnoojcpaaW.PrintLast Go.Proofs.YthhmnecnoojcpaaW.PrintMore Go.Proofs.YthhmnecnoojcpaaU Go.Proofs.Ythhmnecnoojcpaa.Q
set_option linter.unusedVariables false

/-- An event's bytes. -/
def evB (u e kd by_ : Int) : List Int := splice (splice (splice (splice (List.replicate 32 0) 0 (le u 8)) 8 (le e 2)) 10 (le kd 1)) 16 (le by_ 8)
theorem evB_length (u e kd by_ : Int) : (evB u e kd by_).length = 32 := by
  unfold evB
  simp [splice, le_length]
def evMay (e kd by_ : Int) : Bool := decide (0 ≤ e) && decide (e ≤ 76) && decide (0 ≤ kd) && decide (kd ≤ 2) && decide (0 ≤ by_)

theorem sets (u e kd by_ : Int) (k : Nat) (hk : 9 ≤ k) : ((stat_fresh.f 32).bind fun t108 => ((stat_field_set.f k t108 0 8 u).bind fun t112 => ((stat_field_set.f k t112 8 2 e).bind fun t113 => ((stat_field_set.f k t113 10 1 kd).bind fun t114 => ((stat_field_set.f k t114 16 8 by_).bind fun t115 => (some (t115, (0 : Int)))))))) = some (evB u e kd by_, 0) := by
  have h0 : stat_fresh.f 32 = some (List.replicate 32 0) := fresh_eq 32 (by omega)
  have h1 : stat_field_set.f k (List.replicate 32 0) 0 8 u = _ := set_ev (List.replicate 32 0) 0 u 8 (by omega) (by simp) (by simp) k hk
  have h2 : stat_field_set.f k _ 8 2 e = _ := set_ev (splice (List.replicate 32 0) 0 (le u 8)) 8 e 2 (by omega) (by simp [splice, le_length]) (by simp [splice, le_length]) k hk
  have h3 : stat_field_set.f k _ 10 1 kd = _ := set_ev (splice (splice (List.replicate 32 0) 0 (le u 8)) 8 (le e 2)) 10 kd 1 (by omega) (by simp [splice, le_length]) (by simp [splice, le_length]) k hk
  have h4 : stat_field_set.f k _ 16 8 by_ = _ := set_ev (splice (splice (splice (List.replicate 32 0) 0 (le u 8)) 8 (le e 2)) 10 (le kd 1)) 16 by_ 8 (by omega) (by simp [splice, le_length]) (by simp [splice, le_length]) k hk
  rw [h0, Option.bind_some, h1, Option.bind_some, h2, Option.bind_some, h3, Option.bind_some, h4, Option.bind_some]
  rfl

theorem event_ev (u e kd by_ : Int) (k : Nat) (hk : 10 ≤ k) : stat_Event.f k u e kd by_ = some (if evMay e kd by_ then (evB u e kd by_, 0) else ([], 100)) := by
  obtain ⟨k, rfl⟩ : ∃ m, k = m + 1 := ⟨k - 1, by omega⟩
  unfold stat_Event.f evMay
  simp only [stat_Event.j0, if_true]
  by_cases h1 : e < 0
  · rw [if_pos h1]; simp [show ¬ 0 ≤ e by omega]
  rw [if_neg h1]
  by_cases h2 : e > 76
  · rw [if_pos h2]; simp [show ¬ e ≤ 76 by omega]
  rw [if_neg h2]
  by_cases h3 : kd < 0
  · rw [if_pos h3]; simp [show ¬ 0 ≤ kd by omega]
  rw [if_neg h3]
  by_cases h4 : kd > 2
  · rw [if_pos h4]; simp [show ¬ kd ≤ 2 by omega]
  rw [if_neg h4]
  by_cases h5 : by_ < 0
  · rw [if_pos (by simpa using h5)]; simp [show ¬ 0 ≤ by_ by omega]
  rw [if_neg (by simpa using h5), sets u e kd by_ k (by omega)]
  simp [show 0 ≤ e by omega, show e ≤ 76 by omega, show 0 ≤ kd by omega, show kd ≤ 2 by omega, show 0 ≤ by_ by omega]

theorem mayEvent_eq (u e kd by_ : Int) : gangwayref20_MayEvent.f u e kd by_ = some (evMay e kd by_) := by
  unfold gangwayref20_MayEvent.f evMay
  by_cases h1 : 0 ≤ e <;> by_cases h2 : e ≤ 76 <;> by_cases h3 : 0 ≤ kd <;> by_cases h4 : kd ≤ 2 <;> simp [h1, h2, h3, h4]

theorem refEvent_ev (u e kd by_ : Int) (k : Nat) (hk : 9 ≤ k) : gangwayref20_Event.f k u e kd by_ = some (evB u e kd by_) := by
  have h1 : gangwayref20_Little.f k _ 8 = _ := little_ev (u % 18446744073709551616) 8 (by omega) k hk
  have h2 : gangwayref20_Little.f k _ 2 = _ := little_ev (e % 18446744073709551616) 2 (by omega) k hk
  have h3 : gangwayref20_Little.f k _ 8 = _ := little_ev (by_ % 18446744073709551616) 8 (by omega) k hk
  rw [le_wrap _ _ (by omega)] at h1 h2 h3
  have p1 : gangwayref20_put.f k (List.replicate 32 0) 0 (le u 8) = _ := put_ev (List.replicate 32 0) 0 (le u 8) (by simp [le_length]) (by simp) k (by rw [le_length]; omega)
  have p2 : gangwayref20_put.f k _ 8 (le e 2) = _ := put_ev (splice (List.replicate 32 0) 0 (le u 8)) 8 (le e 2) (by simp [splice, le_length]) (by simp [splice, le_length]) k (by rw [le_length]; omega)
  have e10 : (splice (splice (List.replicate 32 0) 0 (le u 8)) 8 (le e 2)).set (10 : Int).toNat (kd % 256) = splice (splice (splice (List.replicate 32 0) 0 (le u 8)) 8 (le e 2)) 10 (le kd 1) := by
    have := splice_one (b := splice (splice (List.replicate 32 0) 0 (le u 8)) 8 (le e 2)) (i := 10) (kd % 256) (by simp [splice, le_length])
    rw [show le kd 1 = [kd % 256] by simp [le, List.range_succ]]
    exact this
  have p3 : gangwayref20_put.f k _ 16 (le by_ 8) = _ := put_ev (splice (splice (splice (List.replicate 32 0) 0 (le u 8)) 8 (le e 2)) 10 (le kd 1)) 16 (le by_ 8) (by simp [splice, le_length]) (by simp [splice, le_length]) k (by rw [le_length]; omega)
  unfold gangwayref20_Event.f
  simp only [wu64]
  rw [if_pos (by omega), Option.bind_some, h1, Option.bind_some, p1, Option.bind_some, h2, Option.bind_some, p2, Option.bind_some, if_pos (by simp), h3, Option.bind_some, e10, p3, Option.bind_some]
  rfl

theorem is_ev (b w : List Int) (e : Int) (ok : Bool) (hb : b.length < 140737488355328) (k : Nat) (hk : b.length < k) (h : if ok then e = 0 ∧ b = w else e = 100 ∧ b = []) : gangwaylaw20_is.f k b e ok w = some true := by
  unfold gangwaylaw20_is.f gangwaylaw20_num.f
  cases ok with
  | false => obtain ⟨rfl, rfl⟩ := h; rfl
  | true =>
    obtain ⟨rfl, rfl⟩ := h
    rw [if_pos rfl, Option.bind_some, if_pos rfl, eqb_ev b b hb k hk]
    simp

theorem StatEvents_l0 (l : List S35) (hl : l.length * 256 ≤ 140737488351232) : ∀ (d i : Nat), i + d = l.length → ∀ k, 2 * d + 40 < k → gangwaylaw20_StatEvents.l0 k l (i : Int) = some true := by
  intro d
  induction d with
  | zero =>
    intro i hi k hk
    obtain ⟨k, rfl⟩ : ∃ m, k = m + 2 := ⟨k - 2, by omega⟩
    simp only [gangwaylaw20_StatEvents.l0]
    rw [if_neg (by omega)]
    simp only [gangwaylaw20_StatEvents.j1]
    rw [if_neg (by simp), wakes_ev k (by omega)]
    rfl
  | succ d ih =>
    intro i hi k hk
    obtain ⟨k, rfl⟩ : ∃ m, k = m + 2 := ⟨k - 2, by omega⟩
    simp only [gangwaylaw20_StatEvents.l0]
    rw [if_pos (by omega)]
    simp only [gangwaylaw20_StatEvents.j1]
    by_cases h20 : (i : Int) < 20
    · rw [if_pos (by simpa using h20), if_pos (by omega), if_pos (by omega)]
      generalize rd_T35 l (i : Int) = x
      rw [event_ev _ _ _ _ k (by omega), mayEvent_eq, refEvent_ev _ _ _ _ k (by omega)]
      simp only [Option.bind_some]
      rw [is_ev _ _ _ _ (by split <;> simp [evB_length]) k (by split <;> simp [evB_length] <;> omega) (by cases evMay x.f7.f1 x.f7.f2 x.f7.f3 <;> simp)]
      simp only [Option.bind_some, if_true]
      rw [w64 (by omega) (by omega)]
      exact ih (i + 1) (by omega) k (by omega)
    · rw [if_neg (by simpa using h20), wakes_ev k (by omega)]
      rfl

theorem StatEvents : gangwaylaw20_StatEvents.Pure := by
  intro l ⟨hl, _⟩
  exact ⟨2 * l.length + 41, StatEvents_l0 l hl l.length 0 (by omega) _ (by omega)⟩

end Go.Proofs.Ythhmnecnoojcpaa.Pure
