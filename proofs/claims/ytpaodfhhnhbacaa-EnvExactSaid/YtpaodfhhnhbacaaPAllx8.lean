/- Printed by a copy of the printer that was turned for this claim: functions as plain Lean functions, with proofs that their calls come to these; or words that such proofs use. -/
import Derived.Test.YtpaodfhhnhbacaaPAllx0
import Derived.Test.YtpaodfhhnhbacaaPAllx1
import Derived.Test.YtpaodfhhnhbacaaPAllx3
import Derived.Test.YtpaodfhhnhbacaaPAllx4
import Derived.Test.YtpaodfhhnhbacaaPAllx5
import Derived.Test.YtpaodfhhnhbacaaPAllx6
import Derived.Test.YtpaodfhhnhbacaaPAllx7
namespace Go.Proofs.Ytpaodfhhnhbacaa.PAll
open Go.RowKit Go.Proofs.YtpaodfhhnhbacaaW.PrintWords Go.Proofs.YtpaodfhhnhbacaaW.PrintLast Go.Proofs.YtpaodfhhnhbacaaW.PrintMore
attribute [local go_sem] max2_int min2_int max_two min_two max_three min_three max_four min_four   -- for this text's walks alone
set_option linter.unusedVariables false
set_option linter.unusedSimpArgs false

/-! ### gangwaylaw22_EnvExact: function 4 -/
mutual
def gangwaylaw22_EnvExact.l0 : Nat → List (S26) → Int → Option (Bool)
  | 0, _, _ => none
  | k + 1, x0, x3 => if x3 < (x0.length : Int) then (gangwaylaw22_EnvExact.j1 k x0 x3 (decide (x3 < 8))) else (gangwaylaw22_EnvExact.j1 k x0 x3 false)
def gangwaylaw22_EnvExact.j1 : Nat → List (S26) → Int → Bool → Option (Bool)
  | 0, _, _, _ => none
  | k + 1, x0, x3, x22 => if x22 = true then (if 0 ≤ x3 then (if x3 < (x0.length : Int) then ((gangwaylaw22_heavy.f k ((rd_T26 x0 x3).f0) ((rd_T26 x0 x3).f1) ((rd_T26 x0 x3).f2)).bind fun t288 => (if t288 = true then (some true) else ((gangwayref20_MayTexts.f k ((rd_T26 x0 x3).f0)).bind fun t289 => (if t289 = true then ((gangwayref20_Size.f k ((rd_T26 x0 x3).f0)).bind fun t290 => (gangwaylaw22_EnvExact.j2 k x0 x3 0 (((rd_T26 x0 x3).f0).length : Int) t290 ((rd_T26 x0 x3).f0) ((rd_T26 x0 x3).f1) ((rd_T26 x0 x3).f2))) else (gangwaylaw22_EnvExact.j2 k x0 x3 100 0 0 ((rd_T26 x0 x3).f0) ((rd_T26 x0 x3).f1) ((rd_T26 x0 x3).f2)))))) else (none)) else (none)) else ((env_Lay_nil.f).bind fun t283 => ((gangwaylaw22_num.f t283).bind fun t284 => (if t284 = 100 then ((gangwaylaw22_wakes.f k).bind fun t285 => (some t285)) else (none))))
def gangwaylaw22_EnvExact.j2 : Nat → List (S26) → Int → Int → Int → Int → List ByteArray → Int → Int → Option (Bool)
  | 0, _, _, _, _, _, _, _, _ => none
  | k + 1, x0, x3, x5, x6, x7, x288000, x288001, x288002 => (env_Sizes.f k x288000).bind fun bt291 => ((env_Check.f k x288000).bind fun t294 => ((gangwaylaw22_num.f t294).bind fun t295 => (if t295 = x5 then ((gangwaylaw22_num.f bt291.2.2).bind fun t296 => (if t296 = x5 then (if bt291.1 = x6 then (if bt291.2.1 = x7 then ((gangwaylaw19_Both.f k (([119, 104, 97, 116, 32, 115, 116, 111, 111, 100, 32, 104, 101, 114, 101] : List Int))).bind fun bt335 => (if bt335.1 = true then (if bt335.2.2.2.1 = true then (if x5 = 0 then ((gangwayref20_Lay.f k bt335.2.2.2.2.1 bt335.2.2.2.2.2 x288000 x288001 x288002).bind fun bt347 => (gangwaylaw22_EnvExact.j3 k x0 x3 x5 (!bt347.1) x288000 x288001 x288002 bt335.2.1 bt335.2.2.1 bt347.2.1 bt347.2.2)) else (gangwaylaw22_EnvExact.j3 k x0 x3 x5 false x288000 x288001 x288002 bt335.2.1 bt335.2.2.1 bt335.2.2.2.2.1 bt335.2.2.2.2.2)) else (none)) else (none))) else (none)) else (none)) else (none))) else (none))))
def gangwaylaw22_EnvExact.j3 : Nat → List (S26) → Int → Int → Bool → List ByteArray → Int → Int → List Int → Int → List Int → Int → Option (Bool)
  | 0, _, _, _, _, _, _, _, _, _, _, _ => none
  | k + 1, x0, x3, x13, x90, x288000, x288001, x288002, x341000, x341001, x347000, x347001 => if x90 = true then (gangwaylaw22_EnvExact.j4 k x0 x3 21 x288000 x288001 x288002 x341000 x341001 x347000 x347001) else (gangwaylaw22_EnvExact.j4 k x0 x3 x13 x288000 x288001 x288002 x341000 x341001 x347000 x347001)
def gangwaylaw22_EnvExact.j4 : Nat → List (S26) → Int → Int → List ByteArray → Int → Int → List Int → Int → List Int → Int → Option (Bool)
  | 0, _, _, _, _, _, _, _, _, _, _ => none
  | k + 1, x0, x3, x13, x288000, x288001, x288002, x341000, x341001, x347000, x347001 => (gangwayref0_CopyStrings.f k x288000).bind fun t352 => ((env_Lay.f k x341000 x341001 t352 x288001 x288002).bind fun bt355 => ((gangwaylaw22_num.f bt355.1).bind fun t360 => (if t360 = x13 then ((gangwaylaw19_Same.f k bt355.2.1 bt355.2.2 x347000 x347001).bind fun bt361 => (if bt361.1 = true then ((gangwayref0_EqStrings.f k t352 x288000).bind fun t366 => (if t366 = true then (gangwaylaw22_EnvExact.l0 k x0 (wrap64 (x3 + 1))) else (none))) else (none))) else (none))))
end
def gangwaylaw22_EnvExact.f (k : Nat) (l0 : List (S26)) : Option (Bool) := gangwaylaw22_EnvExact.l0 k l0 0
theorem gangwaylaw22_EnvExact.mono_l : ∀ k, (∀ y0 y1, LeO (gangwaylaw22_EnvExact.l0 k y0 y1) (gangwaylaw22_EnvExact.l0 (k + 1) y0 y1)) ∧ (∀ y0 y1 y2, LeO (gangwaylaw22_EnvExact.j1 k y0 y1 y2) (gangwaylaw22_EnvExact.j1 (k + 1) y0 y1 y2)) ∧ (∀ y0 y1 y2 y3 y4 y5 y6 y7, LeO (gangwaylaw22_EnvExact.j2 k y0 y1 y2 y3 y4 y5 y6 y7) (gangwaylaw22_EnvExact.j2 (k + 1) y0 y1 y2 y3 y4 y5 y6 y7)) ∧ (∀ y0 y1 y2 y3 y4 y5 y6 y7 y8 y9 y10, LeO (gangwaylaw22_EnvExact.j3 k y0 y1 y2 y3 y4 y5 y6 y7 y8 y9 y10) (gangwaylaw22_EnvExact.j3 (k + 1) y0 y1 y2 y3 y4 y5 y6 y7 y8 y9 y10)) ∧ (∀ y0 y1 y2 y3 y4 y5 y6 y7 y8 y9, LeO (gangwaylaw22_EnvExact.j4 k y0 y1 y2 y3 y4 y5 y6 y7 y8 y9) (gangwaylaw22_EnvExact.j4 (k + 1) y0 y1 y2 y3 y4 y5 y6 y7 y8 y9))
  | 0 => ⟨fun _ _ r h => by simp [gangwaylaw22_EnvExact.l0] at h, fun _ _ _ r h => by simp [gangwaylaw22_EnvExact.j1] at h, fun _ _ _ _ _ _ _ _ r h => by simp [gangwaylaw22_EnvExact.j2] at h, fun _ _ _ _ _ _ _ _ _ _ _ r h => by simp [gangwaylaw22_EnvExact.j3] at h, fun _ _ _ _ _ _ _ _ _ _ r h => by simp [gangwaylaw22_EnvExact.j4] at h⟩
  | k + 1 => by
    obtain ⟨ih0, ih1, ih2, ih3, ih4⟩ := gangwaylaw22_EnvExact.mono_l k
    refine ⟨?_, ?_, ?_, ?_, ?_⟩
    · intro y0 y1
      unfold gangwaylaw22_EnvExact.l0
      repeat' first
      | (with_reducible exact ih0 _ _)
      | (with_reducible exact ih1 _ _ _)
      | (with_reducible exact ih2 _ _ _ _ _ _ _ _)
      | (with_reducible exact ih3 _ _ _ _ _ _ _ _ _ _ _)
      | (with_reducible exact ih4 _ _ _ _ _ _ _ _ _ _)
      | (with_reducible exact env_Check.mono _ _)
      | (with_reducible exact env_Lay.mono _ _ _ _ _ _)
      | (with_reducible exact env_Sizes.mono _ _)
      | (with_reducible exact gangwaylaw19_Both.mono _ _)
      | (with_reducible exact gangwaylaw19_Same.mono _ _ _ _ _)
      | (with_reducible exact gangwaylaw22_heavy.mono _ _ _ _)
      | (with_reducible exact gangwaylaw22_wakes.mono _)
      | (with_reducible exact gangwayref0_CopyStrings.mono _ _)
      | (with_reducible exact gangwayref0_EqStrings.mono _ _ _)
      | (with_reducible exact gangwayref20_Lay.mono _ _ _ _ _ _)
      | (with_reducible exact gangwayref20_MayTexts.mono _ _)
      | (with_reducible exact gangwayref20_Size.mono _ _)
      | (with_reducible exact LeO.refl _)
      | (with_reducible exact LeO.none _)
      | (with_reducible refine LeO.ite ?_ ?_)
      | (with_reducible refine LeO.bind ?_ (fun _ => ?_))
      | exact ih0 _ _
      | exact ih1 _ _ _
      | exact ih2 _ _ _ _ _ _ _ _
      | exact ih3 _ _ _ _ _ _ _ _ _ _ _
      | exact ih4 _ _ _ _ _ _ _ _ _ _
      | exact env_Check.mono _ _
      | exact env_Lay.mono _ _ _ _ _ _
      | exact env_Sizes.mono _ _
      | exact gangwaylaw19_Both.mono _ _
      | exact gangwaylaw19_Same.mono _ _ _ _ _
      | exact gangwaylaw22_heavy.mono _ _ _ _
      | exact gangwaylaw22_wakes.mono _
      | exact gangwayref0_CopyStrings.mono _ _
      | exact gangwayref0_EqStrings.mono _ _ _
      | exact gangwayref20_Lay.mono _ _ _ _ _ _
      | exact gangwayref20_MayTexts.mono _ _
      | exact gangwayref20_Size.mono _ _
      | exact LeO.none _
      | refine LeO.ite ?_ ?_
      | refine LeO.bind ?_ (fun _ => ?_)
    · intro y0 y1 y2
      unfold gangwaylaw22_EnvExact.j1
      repeat' first
      | (with_reducible exact ih0 _ _)
      | (with_reducible exact ih1 _ _ _)
      | (with_reducible exact ih2 _ _ _ _ _ _ _ _)
      | (with_reducible exact ih3 _ _ _ _ _ _ _ _ _ _ _)
      | (with_reducible exact ih4 _ _ _ _ _ _ _ _ _ _)
      | (with_reducible exact env_Check.mono _ _)
      | (with_reducible exact env_Lay.mono _ _ _ _ _ _)
      | (with_reducible exact env_Sizes.mono _ _)
      | (with_reducible exact gangwaylaw19_Both.mono _ _)
      | (with_reducible exact gangwaylaw19_Same.mono _ _ _ _ _)
      | (with_reducible exact gangwaylaw22_heavy.mono _ _ _ _)
      | (with_reducible exact gangwaylaw22_wakes.mono _)
      | (with_reducible exact gangwayref0_CopyStrings.mono _ _)
      | (with_reducible exact gangwayref0_EqStrings.mono _ _ _)
      | (with_reducible exact gangwayref20_Lay.mono _ _ _ _ _ _)
      | (with_reducible exact gangwayref20_MayTexts.mono _ _)
      | (with_reducible exact gangwayref20_Size.mono _ _)
      | (with_reducible exact LeO.refl _)
      | (with_reducible exact LeO.none _)
      | (with_reducible refine LeO.ite ?_ ?_)
      | (with_reducible refine LeO.bind ?_ (fun _ => ?_))
      | exact ih0 _ _
      | exact ih1 _ _ _
      | exact ih2 _ _ _ _ _ _ _ _
      | exact ih3 _ _ _ _ _ _ _ _ _ _ _
      | exact ih4 _ _ _ _ _ _ _ _ _ _
      | exact env_Check.mono _ _
      | exact env_Lay.mono _ _ _ _ _ _
      | exact env_Sizes.mono _ _
      | exact gangwaylaw19_Both.mono _ _
      | exact gangwaylaw19_Same.mono _ _ _ _ _
      | exact gangwaylaw22_heavy.mono _ _ _ _
      | exact gangwaylaw22_wakes.mono _
      | exact gangwayref0_CopyStrings.mono _ _
      | exact gangwayref0_EqStrings.mono _ _ _
      | exact gangwayref20_Lay.mono _ _ _ _ _ _
      | exact gangwayref20_MayTexts.mono _ _
      | exact gangwayref20_Size.mono _ _
      | exact LeO.none _
      | refine LeO.ite ?_ ?_
      | refine LeO.bind ?_ (fun _ => ?_)
    · intro y0 y1 y2 y3 y4 y5 y6 y7
      unfold gangwaylaw22_EnvExact.j2
      repeat' first
      | (with_reducible exact ih0 _ _)
      | (with_reducible exact ih1 _ _ _)
      | (with_reducible exact ih2 _ _ _ _ _ _ _ _)
      | (with_reducible exact ih3 _ _ _ _ _ _ _ _ _ _ _)
      | (with_reducible exact ih4 _ _ _ _ _ _ _ _ _ _)
      | (with_reducible exact env_Check.mono _ _)
      | (with_reducible exact env_Lay.mono _ _ _ _ _ _)
      | (with_reducible exact env_Sizes.mono _ _)
      | (with_reducible exact gangwaylaw19_Both.mono _ _)
      | (with_reducible exact gangwaylaw19_Same.mono _ _ _ _ _)
      | (with_reducible exact gangwaylaw22_heavy.mono _ _ _ _)
      | (with_reducible exact gangwaylaw22_wakes.mono _)
      | (with_reducible exact gangwayref0_CopyStrings.mono _ _)
      | (with_reducible exact gangwayref0_EqStrings.mono _ _ _)
      | (with_reducible exact gangwayref20_Lay.mono _ _ _ _ _ _)
      | (with_reducible exact gangwayref20_MayTexts.mono _ _)
      | (with_reducible exact gangwayref20_Size.mono _ _)
      | (with_reducible exact LeO.refl _)
      | (with_reducible exact LeO.none _)
      | (with_reducible refine LeO.ite ?_ ?_)
      | (with_reducible refine LeO.bind ?_ (fun _ => ?_))
      | exact ih0 _ _
      | exact ih1 _ _ _
      | exact ih2 _ _ _ _ _ _ _ _
      | exact ih3 _ _ _ _ _ _ _ _ _ _ _
      | exact ih4 _ _ _ _ _ _ _ _ _ _
      | exact env_Check.mono _ _
      | exact env_Lay.mono _ _ _ _ _ _
      | exact env_Sizes.mono _ _
      | exact gangwaylaw19_Both.mono _ _
      | exact gangwaylaw19_Same.mono _ _ _ _ _
      | exact gangwaylaw22_heavy.mono _ _ _ _
      | exact gangwaylaw22_wakes.mono _
      | exact gangwayref0_CopyStrings.mono _ _
      | exact gangwayref0_EqStrings.mono _ _ _
      | exact gangwayref20_Lay.mono _ _ _ _ _ _
      | exact gangwayref20_MayTexts.mono _ _
      | exact gangwayref20_Size.mono _ _
      | exact LeO.none _
      | refine LeO.ite ?_ ?_
      | refine LeO.bind ?_ (fun _ => ?_)
    · intro y0 y1 y2 y3 y4 y5 y6 y7 y8 y9 y10
      unfold gangwaylaw22_EnvExact.j3
      repeat' first
      | (with_reducible exact ih0 _ _)
      | (with_reducible exact ih1 _ _ _)
      | (with_reducible exact ih2 _ _ _ _ _ _ _ _)
      | (with_reducible exact ih3 _ _ _ _ _ _ _ _ _ _ _)
      | (with_reducible exact ih4 _ _ _ _ _ _ _ _ _ _)
      | (with_reducible exact env_Check.mono _ _)
      | (with_reducible exact env_Lay.mono _ _ _ _ _ _)
      | (with_reducible exact env_Sizes.mono _ _)
      | (with_reducible exact gangwaylaw19_Both.mono _ _)
      | (with_reducible exact gangwaylaw19_Same.mono _ _ _ _ _)
      | (with_reducible exact gangwaylaw22_heavy.mono _ _ _ _)
      | (with_reducible exact gangwaylaw22_wakes.mono _)
      | (with_reducible exact gangwayref0_CopyStrings.mono _ _)
      | (with_reducible exact gangwayref0_EqStrings.mono _ _ _)
      | (with_reducible exact gangwayref20_Lay.mono _ _ _ _ _ _)
      | (with_reducible exact gangwayref20_MayTexts.mono _ _)
      | (with_reducible exact gangwayref20_Size.mono _ _)
      | (with_reducible exact LeO.refl _)
      | (with_reducible exact LeO.none _)
      | (with_reducible refine LeO.ite ?_ ?_)
      | (with_reducible refine LeO.bind ?_ (fun _ => ?_))
      | exact ih0 _ _
      | exact ih1 _ _ _
      | exact ih2 _ _ _ _ _ _ _ _
      | exact ih3 _ _ _ _ _ _ _ _ _ _ _
      | exact ih4 _ _ _ _ _ _ _ _ _ _
      | exact env_Check.mono _ _
      | exact env_Lay.mono _ _ _ _ _ _
      | exact env_Sizes.mono _ _
      | exact gangwaylaw19_Both.mono _ _
      | exact gangwaylaw19_Same.mono _ _ _ _ _
      | exact gangwaylaw22_heavy.mono _ _ _ _
      | exact gangwaylaw22_wakes.mono _
      | exact gangwayref0_CopyStrings.mono _ _
      | exact gangwayref0_EqStrings.mono _ _ _
      | exact gangwayref20_Lay.mono _ _ _ _ _ _
      | exact gangwayref20_MayTexts.mono _ _
      | exact gangwayref20_Size.mono _ _
      | exact LeO.none _
      | refine LeO.ite ?_ ?_
      | refine LeO.bind ?_ (fun _ => ?_)
    · intro y0 y1 y2 y3 y4 y5 y6 y7 y8 y9
      unfold gangwaylaw22_EnvExact.j4
      repeat' first
      | (with_reducible exact ih0 _ _)
      | (with_reducible exact ih1 _ _ _)
      | (with_reducible exact ih2 _ _ _ _ _ _ _ _)
      | (with_reducible exact ih3 _ _ _ _ _ _ _ _ _ _ _)
      | (with_reducible exact ih4 _ _ _ _ _ _ _ _ _ _)
      | (with_reducible exact env_Check.mono _ _)
      | (with_reducible exact env_Lay.mono _ _ _ _ _ _)
      | (with_reducible exact env_Sizes.mono _ _)
      | (with_reducible exact gangwaylaw19_Both.mono _ _)
      | (with_reducible exact gangwaylaw19_Same.mono _ _ _ _ _)
      | (with_reducible exact gangwaylaw22_heavy.mono _ _ _ _)
      | (with_reducible exact gangwaylaw22_wakes.mono _)
      | (with_reducible exact gangwayref0_CopyStrings.mono _ _)
      | (with_reducible exact gangwayref0_EqStrings.mono _ _ _)
      | (with_reducible exact gangwayref20_Lay.mono _ _ _ _ _ _)
      | (with_reducible exact gangwayref20_MayTexts.mono _ _)
      | (with_reducible exact gangwayref20_Size.mono _ _)
      | (with_reducible exact LeO.refl _)
      | (with_reducible exact LeO.none _)
      | (with_reducible refine LeO.ite ?_ ?_)
      | (with_reducible refine LeO.bind ?_ (fun _ => ?_))
      | exact ih0 _ _
      | exact ih1 _ _ _
      | exact ih2 _ _ _ _ _ _ _ _
      | exact ih3 _ _ _ _ _ _ _ _ _ _ _
      | exact ih4 _ _ _ _ _ _ _ _ _ _
      | exact env_Check.mono _ _
      | exact env_Lay.mono _ _ _ _ _ _
      | exact env_Sizes.mono _ _
      | exact gangwaylaw19_Both.mono _ _
      | exact gangwaylaw19_Same.mono _ _ _ _ _
      | exact gangwaylaw22_heavy.mono _ _ _ _
      | exact gangwaylaw22_wakes.mono _
      | exact gangwayref0_CopyStrings.mono _ _
      | exact gangwayref0_EqStrings.mono _ _ _
      | exact gangwayref20_Lay.mono _ _ _ _ _ _
      | exact gangwayref20_MayTexts.mono _ _
      | exact gangwayref20_Size.mono _ _
      | exact LeO.none _
      | refine LeO.ite ?_ ?_
      | refine LeO.bind ?_ (fun _ => ?_)
theorem gangwaylaw22_EnvExact.mono : ∀ a0 k, LeO (gangwaylaw22_EnvExact.f k a0) (gangwaylaw22_EnvExact.f (k + 1) a0) := by
  intro a0 k
  obtain ⟨ih0, ih1, ih2, ih3, ih4⟩ := gangwaylaw22_EnvExact.mono_l k
  unfold gangwaylaw22_EnvExact.f
  repeat' first
      | (with_reducible exact ih0 _ _)
      | (with_reducible exact ih1 _ _ _)
      | (with_reducible exact ih2 _ _ _ _ _ _ _ _)
      | (with_reducible exact ih3 _ _ _ _ _ _ _ _ _ _ _)
      | (with_reducible exact ih4 _ _ _ _ _ _ _ _ _ _)
      | (with_reducible exact env_Check.mono _ _)
      | (with_reducible exact env_Lay.mono _ _ _ _ _ _)
      | (with_reducible exact env_Sizes.mono _ _)
      | (with_reducible exact gangwaylaw19_Both.mono _ _)
      | (with_reducible exact gangwaylaw19_Same.mono _ _ _ _ _)
      | (with_reducible exact gangwaylaw22_heavy.mono _ _ _ _)
      | (with_reducible exact gangwaylaw22_wakes.mono _)
      | (with_reducible exact gangwayref0_CopyStrings.mono _ _)
      | (with_reducible exact gangwayref0_EqStrings.mono _ _ _)
      | (with_reducible exact gangwayref20_Lay.mono _ _ _ _ _ _)
      | (with_reducible exact gangwayref20_MayTexts.mono _ _)
      | (with_reducible exact gangwayref20_Size.mono _ _)
      | (with_reducible exact LeO.refl _)
      | (with_reducible exact LeO.none _)
      | (with_reducible refine LeO.ite ?_ ?_)
      | (with_reducible refine LeO.bind ?_ (fun _ => ?_))
      | exact ih0 _ _
      | exact ih1 _ _ _
      | exact ih2 _ _ _ _ _ _ _ _
      | exact ih3 _ _ _ _ _ _ _ _ _ _ _
      | exact ih4 _ _ _ _ _ _ _ _ _ _
      | exact env_Check.mono _ _
      | exact env_Lay.mono _ _ _ _ _ _
      | exact env_Sizes.mono _ _
      | exact gangwaylaw19_Both.mono _ _
      | exact gangwaylaw19_Same.mono _ _ _ _ _
      | exact gangwaylaw22_heavy.mono _ _ _ _
      | exact gangwaylaw22_wakes.mono _
      | exact gangwayref0_CopyStrings.mono _ _
      | exact gangwayref0_EqStrings.mono _ _ _
      | exact gangwayref20_Lay.mono _ _ _ _ _ _
      | exact gangwayref20_MayTexts.mono _ _
      | exact gangwayref20_Size.mono _ _
      | exact LeO.none _
      | refine LeO.ite ?_ ?_
      | refine LeO.bind ?_ (fun _ => ?_)
set_option maxHeartbeats 8000000 in
set_option maxRecDepth 100000 in
theorem gangwaylaw22_EnvExact.calls (k : Nat) (A0 : Option Addr) (c0 : Nat) (l0 : List (S26)) (r : Bool) (w : World) (hr0 : Kd.C k26 w A0 l0.length l0) (hc0 : l0.length ≤ c0) (h : gangwaylaw22_EnvExact.f k l0 = some r) :
    Calls Try.prog 4 #[.slice A0 l0.length c0] w fun e w' => e = .returned (.bool r) ∧ Below w.heap.size w w' := by
  have hu26 := Try.underlying26
  have HR0 := Aside0.mk hr0
  have HC0 := Aside0.mk hc0
  clear hr0 hc0
  have HB := Aside0.mk (Below.refl w.heap.size w)
  have H : (gangwaylaw22_EnvExact.l0 k l0 0) = some r := h
  clear h
  have H' := Aside0.mk H
  clear H
  go_enter Try.func4, Try.ntmps4
  go_wp2
  go_loopg [3] k (fun kq v3 w' => ∃ (x3_1 : Int), v3 = .int .i64 x3_1 ∧ Aside0 (gangwaylaw22_EnvExact.l0 kq l0 x3_1 = some r) ∧ Aside0 (kq ≤ k) ∧ Aside0 (Below w.heap.size w w'))
  case atStart => exact ⟨(0), (by first | rfl | (simp; done) | (simp [*]; done)), H', ⟨Nat.le_refl _⟩, ⟨by repeat (first | (with_reducible first | exact HB.out | apply below_alloc | apply pw_below_drewN | apply below_drew1) | exact HB.out)⟩⟩
  case round =>
    clear H'
    obtain ⟨x3_1, rfl, HA, HK1, HB⟩ := hrel
    cases gk with
    | zero => exact absurd HA.out (by simp [gangwaylaw22_EnvExact.l0])
    | succ k1 =>
      have H := HA.out
      clear HA
      simp only [gangwaylaw22_EnvExact.l0] at H
      have HC2 := Aside0.mk H
      clear H
      go_upto_region 2 with (fail)
      go_cut [22] (fun v22 wc => ∃ (kq : Nat) (x22_1 : Bool), v22 = .bool x22_1 ∧ Aside0 (gangwaylaw22_EnvExact.j1 kq l0 x3_1 x22_1 = some r) ∧ Aside0 (kq ≤ k1) ∧ Aside0 (Below w.heap.size w wc))
      case first =>
        have H := HC2.out
        clear HC2
        by_cases c3 : x3_1 < (l0.length : Int)
        · rw [if_pos c3] at H
          have c3b0 : decide (x3_1 < (l0.length : Int)) = true := decide_eq_true c3
          clear c3
          (first | rw [c3b0] | (simp only [i64_w, i32_w]; rw [c3b0]) | skip)
          have H' := Aside0.mk H
          clear H
          go_wp2
          go_meet
          case rel => exact ⟨_, (decide (x3_1 < 8)), (by first | rfl | (simp; done) | (simp [*]; done)), H', ⟨by have := HK1.out; first | omega | exact Nat.le_refl _⟩, ⟨by repeat (first | (with_reducible first | exact HB.out | apply below_alloc | apply pw_below_drewN | apply below_drew1) | exact HB.out)⟩⟩
        · rw [if_neg c3] at H
          have c3b0 : decide (x3_1 < (l0.length : Int)) = false := decide_eq_false c3
          clear c3
          (first | rw [c3b0] | (simp only [i64_w, i32_w]; rw [c3b0]) | skip)
          have H' := Aside0.mk H
          clear H
          go_wp2
          go_meet
          case rel => exact ⟨_, (false), (by first | rfl | (simp; done) | (simp [*]; done)), H', ⟨by have := HK1.out; first | omega | exact Nat.le_refl _⟩, ⟨by repeat (first | (with_reducible first | exact HB.out | apply below_alloc | apply pw_below_drewN | apply below_drew1) | exact HB.out)⟩⟩
      case rest =>
        clear HC2
        try clear p2
        try clear c3
        try clear c3b0
        obtain ⟨kq, x22_1, rfl, HA, HJ1, HB⟩ := hcut
        cases kq with
        | zero => exact absurd HA.out (by simp [gangwaylaw22_EnvExact.j1])
        | succ kj1 =>
          have H := HA.out
          clear HA
          simp only [gangwaylaw22_EnvExact.j1] at H
          by_cases c4 : x22_1 = true
          · subst c4
            have H1 : (if 0 ≤ x3_1 then (if x3_1 < (l0.length : Int) then ((gangwaylaw22_heavy.f kj1 ((rd_T26 l0 x3_1).f0) ((rd_T26 l0 x3_1).f1) ((rd_T26 l0 x3_1).f2)).bind fun t288 => (if t288 = true then (some true) else ((gangwayref20_MayTexts.f kj1 ((rd_T26 l0 x3_1).f0)).bind fun t289 => (if t289 = true then ((gangwayref20_Size.f kj1 ((rd_T26 l0 x3_1).f0)).bind fun t290 => (gangwaylaw22_EnvExact.j2 kj1 l0 x3_1 0 (((rd_T26 l0 x3_1).f0).length : Int) t290 ((rd_T26 l0 x3_1).f0) ((rd_T26 l0 x3_1).f1) ((rd_T26 l0 x3_1).f2))) else (gangwaylaw22_EnvExact.j2 kj1 l0 x3_1 100 0 0 ((rd_T26 l0 x3_1).f0) ((rd_T26 l0 x3_1).f1) ((rd_T26 l0 x3_1).f2)))))) else (none)) else (none)) = some r := by rw [if_pos rfl] at H; exact H
            clear H
            have H := H1
            clear H1
            by_cases c5 : 0 ≤ x3_1
            · rw [if_pos c5] at H
              have c5b0 : decide (0 ≤ x3_1) = true := decide_eq_true c5
              clear c5
              by_cases c6 : x3_1 < (l0.length : Int)
              · rw [if_pos c6] at H
                have c6b0 : decide (x3_1 < (l0.length : Int)) = true := decide_eq_true c6
                clear c6
                replace H := Option.bind_eq_some_iff.mp H
                obtain ⟨t288, A70, H⟩ := H
                replace H : (if t288 = true then (some true) else ((gangwayref20_MayTexts.f kj1 ((rd_T26 l0 x3_1).f0)).bind fun t289 => (if t289 = true then ((gangwayref20_Size.f kj1 ((rd_T26 l0 x3_1).f0)).bind fun t290 => (gangwaylaw22_EnvExact.j2 kj1 l0 x3_1 0 (((rd_T26 l0 x3_1).f0).length : Int) t290 ((rd_T26 l0 x3_1).f0) ((rd_T26 l0 x3_1).f1) ((rd_T26 l0 x3_1).f2))) else (gangwaylaw22_EnvExact.j2 kj1 l0 x3_1 100 0 0 ((rd_T26 l0 x3_1).f0) ((rd_T26 l0 x3_1).f1) ((rd_T26 l0 x3_1).f2))))) = some r := H
                have A7 := Aside0.mk A70
                clear A70
                by_cases c8 : t288 = true
                · subst c8
                  have H1 : (some true) = some r := by rw [if_pos rfl] at H; exact H
                  clear H
                  have H := H1
                  clear H1
                  obtain rfl := Option.some.inj H
                  have p286 : 0 ≤ (x3_1 : Int) := of_decide_eq_true (by first | (with_reducible assumption) | assumption)
                  have q286 : x3_1 < (l0.length : Int) := of_decide_eq_true (by first | (with_reducible assumption) | assumption)
                  obtain ⟨ad286, A286_0, c286_0, e286, hx286_0, hx286_1, hx286_2, hl286_0, hi286_0⟩ := at_T26 HR0.out x3_1 p286 q286
                  cases e286
                  replace hx286_0 := (HB.out.cell (World.block_lt_of_cell? w _ hx286_0)).trans hx286_0
                  replace hx286_1 := (HB.out.cell (World.block_lt_of_cell? w _ hx286_1)).trans hx286_1
                  replace hx286_2 := (HB.out.cell (World.block_lt_of_cell? w _ hx286_2)).trans hx286_2
                  have HR286_0 := Aside0.mk hi286_0
                  have HC286_0 := Aside0.mk hl286_0
                  clear hi286_0 hl286_0
                  replace p286 := eq_true p286
                  replace q286 := eq_true q286
                  go_wp2_with (first | ((with_reducible refine gate_dst (N := 4) rfl ?_); refine box_event ?hg (N := 4) ?hd (cs := #[.slice none 0 0, .int .i64 0, .int .i64 0]) (t := 26) ?hr ?_; (case hd => rfl); (case hg => rfl); (case hr => first | (go_simp; done) | (go_simp; rfl)); intro gb287 hg w9 hbox hb; have n0_ := Aside0.mk (below_step (by repeat (first | (with_reducible first | exact HB.out | apply below_alloc | apply pw_below_drewN | apply below_drew1) | exact HB.out)) hb); have n1_ := Aside0.mk (hbox); have n2_ := Aside0.mk ((by rw [hg]; exact (below_size (by repeat (first | (with_reducible first | exact HB.out | apply below_alloc | apply pw_below_drewN | apply below_drew1) | exact HB.out))) : w.heap.size ≤ gb287)); have n3_ := Aside0.mk ((by rw [hg]; exact (below_size (by repeat (first | (with_reducible first | exact HB.out | apply below_alloc | apply pw_below_drewN | apply below_drew1) | exact HB.out))) : w.heap.size ≤ gb287)); clear HB; have HB := n0_; have BK287 := n1_; have GW287 := n2_; have GE287 := n3_; clear n0_ n1_ n2_ n3_; clear hb hbox hg; have hcz10_0 : w9.cell? ⟨gb287, 0, none⟩ = some (.slice none 0 0) := (blk_cell BK287.out 0).trans rfl; have hcz10_1 : w9.cell? ⟨gb287, 1, none⟩ = some (.int .i64 0) := (blk_cell BK287.out 1).trans rfl; have hcz10_2 : w9.cell? ⟨gb287, 2, none⟩ = some (.int .i64 0) := (blk_cell BK287.out 2).trans rfl; have hfz10_0 := blk_frozen BK287.out 0; have hfz10_1 := blk_frozen BK287.out 1; have hfz10_2 := blk_frozen BK287.out 2) | ((with_reducible refine gate_callee (f := 6) rfl ?_); refine goesL_ (some 30) rfl rfl Try.func6 (by kernel_rfl) rfl #[.agg #[.slice A286_0 ((rd_T26 l0 x3_1).f0).length c286_0, .int .i64 ((rd_T26 l0 x3_1).f1), .int .i64 ((rd_T26 l0 x3_1).f2)]] rfl (by (try simp only [List.map_toArray, List.map_cons, List.map_nil]); first | done | rfl | (simp only [List.length_drop, List.length_take]; rfl)) ?_; (with_reducible refine (gangwaylaw22_heavy.calls kj1 _ _ ((rd_T26 l0 x3_1).f0) ((rd_T26 l0 x3_1).f1) ((rd_T26 l0 x3_1).f2) true _ ?side1 ?side2 A7.out).mono ?_); (case side1 => exact Kd.C_below HR286_0.out (by repeat (first | (with_reducible first | exact HB.out | apply below_alloc | apply pw_below_drewN | apply below_drew1 | refine below_set ?_ GE287.out) | exact HB.out))); (case side2 => exact HC286_0.out); rintro e w11 ⟨rfl, hb⟩; refine ⟨_, rfl, ?_⟩; have n0_ := Aside0.mk (blk_below (g := gb287) (o := .cells #[.slice A286_0 ((rd_T26 l0 x3_1).f0).length c286_0, .int .i64 ((rd_T26 l0 x3_1).f1), .int .i64 ((rd_T26 l0 x3_1).f2)] 26 (0, 0)) (by (with_reducible repeat (first | refine blk_drewN ?_ _ | refine blk_drew ?_ | refine blk_alloc ?_ _)); refine blk_put (cs := #[.slice A286_0 ((rd_T26 l0 x3_1).f0).length c286_0, .int .i64 ((rd_T26 l0 x3_1).f1), .int .i64 0]) ?_ 2 _ rfl; (with_reducible repeat (first | refine blk_drewN ?_ _ | refine blk_drew ?_ | refine blk_alloc ?_ _)); refine blk_put (cs := #[.slice A286_0 ((rd_T26 l0 x3_1).f0).length c286_0, .int .i64 0, .int .i64 0]) ?_ 1 _ rfl; (with_reducible repeat (first | refine blk_drewN ?_ _ | refine blk_drew ?_ | refine blk_alloc ?_ _)); refine blk_put (cs := #[.slice none 0 0, .int .i64 0, .int .i64 0]) ?_ 0 _ rfl; (with_reducible repeat (first | refine blk_drewN ?_ _ | refine blk_drew ?_ | refine blk_alloc ?_ _)); exact BK287.out) hb); have n1_ := Aside0.mk (below_step (by repeat (first | (with_reducible first | exact HB.out | apply below_alloc | apply pw_below_drewN | apply below_drew1 | refine below_set ?_ GE287.out) | exact HB.out)) hb); clear BK287; clear HB; have BK287 := n0_; have HB := n1_; clear n0_ n1_; (try clear hb); (try clear hb2); (try clear hk); (try clear hi)))
                  go_ret
                  exact ⟨by first | rfl | (simp [errW_none, errW_some] <;> rfl) | (simp [*, errW_none, errW_some] <;> rfl), by repeat (first | (with_reducible first | exact HB.out | apply below_alloc | apply pw_below_drewN | apply below_drew1 | refine below_set ?_ GE287.out) | exact HB.out)⟩
                · replace c8 := Bool.eq_false_iff.mpr c8
                  subst c8
                  have H1 : ((gangwayref20_MayTexts.f kj1 ((rd_T26 l0 x3_1).f0)).bind fun t289 => (if t289 = true then ((gangwayref20_Size.f kj1 ((rd_T26 l0 x3_1).f0)).bind fun t290 => (gangwaylaw22_EnvExact.j2 kj1 l0 x3_1 0 (((rd_T26 l0 x3_1).f0).length : Int) t290 ((rd_T26 l0 x3_1).f0) ((rd_T26 l0 x3_1).f1) ((rd_T26 l0 x3_1).f2))) else (gangwaylaw22_EnvExact.j2 kj1 l0 x3_1 100 0 0 ((rd_T26 l0 x3_1).f0) ((rd_T26 l0 x3_1).f1) ((rd_T26 l0 x3_1).f2)))) = some r := by rw [if_neg (show ¬ (false = true) by decide)] at H; exact H
                  clear H
                  have H := H1
                  clear H1
                  replace H := Option.bind_eq_some_iff.mp H
                  obtain ⟨t289, A120, H⟩ := H
                  replace H : (if t289 = true then ((gangwayref20_Size.f kj1 ((rd_T26 l0 x3_1).f0)).bind fun t290 => (gangwaylaw22_EnvExact.j2 kj1 l0 x3_1 0 (((rd_T26 l0 x3_1).f0).length : Int) t290 ((rd_T26 l0 x3_1).f0) ((rd_T26 l0 x3_1).f1) ((rd_T26 l0 x3_1).f2))) else (gangwaylaw22_EnvExact.j2 kj1 l0 x3_1 100 0 0 ((rd_T26 l0 x3_1).f0) ((rd_T26 l0 x3_1).f1) ((rd_T26 l0 x3_1).f2))) = some r := H
                  have A12 := Aside0.mk A120
                  clear A120
                  have HC13 := Aside0.mk H
                  clear H
                  have p286 : 0 ≤ (x3_1 : Int) := of_decide_eq_true (by first | (with_reducible assumption) | assumption)
                  have q286 : x3_1 < (l0.length : Int) := of_decide_eq_true (by first | (with_reducible assumption) | assumption)
                  obtain ⟨ad286, A286_0, c286_0, e286, hx286_0, hx286_1, hx286_2, hl286_0, hi286_0⟩ := at_T26 HR0.out x3_1 p286 q286
                  cases e286
                  replace hx286_0 := (HB.out.cell (World.block_lt_of_cell? w _ hx286_0)).trans hx286_0
                  replace hx286_1 := (HB.out.cell (World.block_lt_of_cell? w _ hx286_1)).trans hx286_1
                  replace hx286_2 := (HB.out.cell (World.block_lt_of_cell? w _ hx286_2)).trans hx286_2
                  have HR286_0 := Aside0.mk hi286_0
                  have HC286_0 := Aside0.mk hl286_0
                  clear hi286_0 hl286_0
                  replace p286 := eq_true p286
                  replace q286 := eq_true q286
                  go_upto_if 33 with (first | ((with_reducible refine gate_dst (N := 4) rfl ?_); refine box_event ?hg (N := 4) ?hd (cs := #[.slice none 0 0, .int .i64 0, .int .i64 0]) (t := 26) ?hr ?_; (case hd => rfl); (case hg => rfl); (case hr => first | (go_simp; done) | (go_simp; rfl)); intro gb287 hg w14 hbox hb; have n0_ := Aside0.mk (below_step (by repeat (first | (with_reducible first | exact HB.out | apply below_alloc | apply pw_below_drewN | apply below_drew1) | exact HB.out)) hb); have n1_ := Aside0.mk (hbox); have n2_ := Aside0.mk ((by rw [hg]; exact (below_size (by repeat (first | (with_reducible first | exact HB.out | apply below_alloc | apply pw_below_drewN | apply below_drew1) | exact HB.out))) : w.heap.size ≤ gb287)); have n3_ := Aside0.mk ((by rw [hg]; exact (below_size (by repeat (first | (with_reducible first | exact HB.out | apply below_alloc | apply pw_below_drewN | apply below_drew1) | exact HB.out))) : w.heap.size ≤ gb287)); clear HB; have HB := n0_; have BK287 := n1_; have GW287 := n2_; have GE287 := n3_; clear n0_ n1_ n2_ n3_; clear hb hbox hg; have hcz15_0 : w14.cell? ⟨gb287, 0, none⟩ = some (.slice none 0 0) := (blk_cell BK287.out 0).trans rfl; have hcz15_1 : w14.cell? ⟨gb287, 1, none⟩ = some (.int .i64 0) := (blk_cell BK287.out 1).trans rfl; have hcz15_2 : w14.cell? ⟨gb287, 2, none⟩ = some (.int .i64 0) := (blk_cell BK287.out 2).trans rfl; have hfz15_0 := blk_frozen BK287.out 0; have hfz15_1 := blk_frozen BK287.out 1; have hfz15_2 := blk_frozen BK287.out 2) | ((with_reducible refine gate_callee (f := 6) rfl ?_); refine goesL_ (some 30) rfl rfl Try.func6 (by kernel_rfl) rfl #[.agg #[.slice A286_0 ((rd_T26 l0 x3_1).f0).length c286_0, .int .i64 ((rd_T26 l0 x3_1).f1), .int .i64 ((rd_T26 l0 x3_1).f2)]] rfl (by (try simp only [List.map_toArray, List.map_cons, List.map_nil]); first | done | rfl | (simp only [List.length_drop, List.length_take]; rfl)) ?_; (with_reducible refine (gangwaylaw22_heavy.calls kj1 _ _ ((rd_T26 l0 x3_1).f0) ((rd_T26 l0 x3_1).f1) ((rd_T26 l0 x3_1).f2) false _ ?side1 ?side2 A7.out).mono ?_); (case side1 => exact Kd.C_below HR286_0.out (by repeat (first | (with_reducible first | exact HB.out | apply below_alloc | apply pw_below_drewN | apply below_drew1 | refine below_set ?_ GE287.out) | exact HB.out))); (case side2 => exact HC286_0.out); rintro e w16 ⟨rfl, hb⟩; refine ⟨_, rfl, ?_⟩; have n0_ := Aside0.mk (blk_below (g := gb287) (o := .cells #[.slice A286_0 ((rd_T26 l0 x3_1).f0).length c286_0, .int .i64 ((rd_T26 l0 x3_1).f1), .int .i64 ((rd_T26 l0 x3_1).f2)] 26 (0, 0)) (by (with_reducible repeat (first | refine blk_drewN ?_ _ | refine blk_drew ?_ | refine blk_alloc ?_ _)); refine blk_put (cs := #[.slice A286_0 ((rd_T26 l0 x3_1).f0).length c286_0, .int .i64 ((rd_T26 l0 x3_1).f1), .int .i64 0]) ?_ 2 _ rfl; (with_reducible repeat (first | refine blk_drewN ?_ _ | refine blk_drew ?_ | refine blk_alloc ?_ _)); refine blk_put (cs := #[.slice A286_0 ((rd_T26 l0 x3_1).f0).length c286_0, .int .i64 0, .int .i64 0]) ?_ 1 _ rfl; (with_reducible repeat (first | refine blk_drewN ?_ _ | refine blk_drew ?_ | refine blk_alloc ?_ _)); refine blk_put (cs := #[.slice none 0 0, .int .i64 0, .int .i64 0]) ?_ 0 _ rfl; (with_reducible repeat (first | refine blk_drewN ?_ _ | refine blk_drew ?_ | refine blk_alloc ?_ _)); exact BK287.out) hb); have n1_ := Aside0.mk (below_step (by repeat (first | (with_reducible first | exact HB.out | apply below_alloc | apply pw_below_drewN | apply below_drew1 | refine below_set ?_ GE287.out) | exact HB.out)) hb); clear BK287; clear HB; have BK287 := n0_; have HB := n1_; clear n0_ n1_; (try clear hb); (try clear hb2); (try clear hk); (try clear hi); have hcz17_0 : w16.cell? ⟨gb287, 0, none⟩ = some (.slice A286_0 ((rd_T26 l0 x3_1).f0).length c286_0) := (blk_cell BK287.out 0).trans rfl; have hcz17_1 : w16.cell? ⟨gb287, 1, none⟩ = some (.int .i64 ((rd_T26 l0 x3_1).f1)) := (blk_cell BK287.out 1).trans rfl; have hcz17_2 : w16.cell? ⟨gb287, 2, none⟩ = some (.int .i64 ((rd_T26 l0 x3_1).f2)) := (blk_cell BK287.out 2).trans rfl; have hfz17_0 := blk_frozen BK287.out 0; have hfz17_1 := blk_frozen BK287.out 1; have hfz17_2 := blk_frozen BK287.out 2) | ((with_reducible refine gate_callee (f := 12) rfl ?_); refine goesL_ (some 33) rfl rfl Try.func12 (by kernel_rfl) rfl #[.slice A286_0 ((rd_T26 l0 x3_1).f0).length c286_0] rfl (by (try simp only [List.map_toArray, List.map_cons, List.map_nil]); first | done | rfl | (simp only [List.length_drop, List.length_take]; rfl)) ?_; (with_reducible refine (gangwayref20_MayTexts.calls kj1 _ _ ((rd_T26 l0 x3_1).f0) t289 _ ?side1 ?side2 A12.out).mono ?_); (case side1 => repeat (first | exact (Kd.C_below HR286_0.out HB.out) | (with_reducible refine Kd.C_alloc ?_ _) | (with_reducible refine Kd.C_drewN ?_ _) | (with_reducible refine Kd.C_drew ?_))); (case side2 => exact HC286_0.out); rintro e w' ⟨rfl, ⟨nd, rfl⟩⟩; refine ⟨_, rfl, ?_⟩))
                  (try simp only [Act.put, List.setIfInBounds_toArray, List.set_cons_zero, List.set_cons_succ])
                  go_cut [5, 6, 7] (fun v5 v6 v7 wc => ∃ (kq : Nat) (x5_12 : Int) (x6_12 : Int) (x7_12 : Int), v5 = .int .i64 x5_12 ∧ v6 = .int .i64 x6_12 ∧ v7 = .int .i64 x7_12 ∧ Aside0 (gangwaylaw22_EnvExact.j2 kq l0 x3_1 x5_12 x6_12 x7_12 ((rd_T26 l0 x3_1).f0) ((rd_T26 l0 x3_1).f1) ((rd_T26 l0 x3_1).f2) = some r) ∧ Aside0 (kq ≤ kj1) ∧ Aside0 (wc.heap[gb287]? = some (.cells #[(.slice A286_0 ((rd_T26 l0 x3_1).f0).length c286_0), .int .i64 ((rd_T26 l0 x3_1).f1), .int .i64 ((rd_T26 l0 x3_1).f2)] 26 (0, 0))) ∧ Aside0 (Below w.heap.size w wc))
                  case first =>
                    have H := HC13.out
                    clear HC13
                    by_cases c18 : t289 = true
                    · subst c18
                      have H1 : ((gangwayref20_Size.f kj1 ((rd_T26 l0 x3_1).f0)).bind fun t290 => (gangwaylaw22_EnvExact.j2 kj1 l0 x3_1 0 (((rd_T26 l0 x3_1).f0).length : Int) t290 ((rd_T26 l0 x3_1).f0) ((rd_T26 l0 x3_1).f1) ((rd_T26 l0 x3_1).f2))) = some r := by rw [if_pos rfl] at H; exact H
                      clear H
                      have H := H1
                      clear H1
                      replace H := Option.bind_eq_some_iff.mp H
                      obtain ⟨t290, A190, H⟩ := H
                      replace H : (gangwaylaw22_EnvExact.j2 kj1 l0 x3_1 0 (((rd_T26 l0 x3_1).f0).length : Int) t290 ((rd_T26 l0 x3_1).f0) ((rd_T26 l0 x3_1).f1) ((rd_T26 l0 x3_1).f2)) = some r := H
                      have A19 := Aside0.mk A190
                      clear A190
                      have H' := Aside0.mk H
                      clear H
                      have hcz20_0 : w16.cell? ⟨gb287, 0, none⟩ = some (.slice A286_0 ((rd_T26 l0 x3_1).f0).length c286_0) := (blk_cell BK287.out 0).trans rfl
                      have hcz20_1 : w16.cell? ⟨gb287, 1, none⟩ = some (.int .i64 ((rd_T26 l0 x3_1).f1)) := (blk_cell BK287.out 1).trans rfl
                      have hcz20_2 : w16.cell? ⟨gb287, 2, none⟩ = some (.int .i64 ((rd_T26 l0 x3_1).f2)) := (blk_cell BK287.out 2).trans rfl
                      have hfz20_0 := blk_frozen BK287.out 0
                      have hfz20_1 := blk_frozen BK287.out 1
                      have hfz20_2 := blk_frozen BK287.out 2
                      go_wp2_with (first | ((with_reducible refine gate_callee (f := 13) rfl ?_); refine goesL_ (some 39) rfl rfl Try.func13 (by kernel_rfl) rfl #[.slice A286_0 ((rd_T26 l0 x3_1).f0).length c286_0] rfl (by (try simp only [List.map_toArray, List.map_cons, List.map_nil]); first | done | rfl | (simp only [List.length_drop, List.length_take]; rfl)) ?_; (with_reducible refine (gangwayref20_Size.calls kj1 _ _ ((rd_T26 l0 x3_1).f0) t290 _ ?side1 ?side2 A19.out).mono ?_); (case side1 => repeat (first | exact (Kd.C_below HR286_0.out HB.out) | (with_reducible refine Kd.C_alloc ?_ _) | (with_reducible refine Kd.C_drewN ?_ _) | (with_reducible refine Kd.C_drew ?_))); (case side2 => exact HC286_0.out); rintro e w' ⟨rfl, ⟨nd, rfl⟩⟩; refine ⟨_, rfl, ?_⟩))
                      go_meet
                      case rel => exact ⟨_, (0), ((((rd_T26 l0 x3_1).f0).length : Int)), (t290), (by first | rfl | (simp; done) | (simp [*]; done)), (by first | rfl | (simp; done) | (simp [*]; done)), (by first | rfl | (simp; done) | (simp [*]; done)), H', ⟨by have := HK1.out; have := HJ1.out; first | omega | exact Nat.le_refl _⟩, ⟨by (with_reducible repeat (first | refine blk_drewN ?_ _ | refine blk_drew ?_ | refine blk_alloc ?_ _)); exact BK287.out⟩, ⟨by repeat (first | (with_reducible first | exact HB.out | apply below_alloc | apply pw_below_drewN | apply below_drew1 | refine below_set ?_ GE287.out) | exact HB.out)⟩⟩
                    · replace c18 := Bool.eq_false_iff.mpr c18
                      subst c18
                      have H1 : (gangwaylaw22_EnvExact.j2 kj1 l0 x3_1 100 0 0 ((rd_T26 l0 x3_1).f0) ((rd_T26 l0 x3_1).f1) ((rd_T26 l0 x3_1).f2)) = some r := by rw [if_neg (show ¬ (false = true) by decide)] at H; exact H
                      clear H
                      have H := H1
                      clear H1
                      have H' := Aside0.mk H
                      clear H
                      go_wp2
                      go_meet
                      case rel => exact ⟨_, (100), (0), (0), (by first | rfl | (simp; done) | (simp [*]; done)), (by first | rfl | (simp; done) | (simp [*]; done)), (by first | rfl | (simp; done) | (simp [*]; done)), H', ⟨by have := HK1.out; have := HJ1.out; first | omega | exact Nat.le_refl _⟩, ⟨by (with_reducible repeat (first | refine blk_drewN ?_ _ | refine blk_drew ?_ | refine blk_alloc ?_ _)); exact BK287.out⟩, ⟨by repeat (first | (with_reducible first | exact HB.out | apply below_alloc | apply pw_below_drewN | apply below_drew1 | refine below_set ?_ GE287.out) | exact HB.out)⟩⟩
                  case rest =>
                    clear HC13
                    try clear c1
                    try clear c2
                    try clear p2
                    try clear q2
                    try clear hx2
                    try clear c3
                    try clear c3b0
                    try clear c4
                    try clear c5
                    try clear c5b0
                    try clear c6
                    try clear c6b0
                    try clear c8
                    try clear c12
                    try clear c13
                    try clear c18
                    try clear hcz10_0
                    try clear hcz10_1
                    try clear hcz10_2
                    try clear hcz15_0
                    try clear hcz15_1
                    try clear hcz15_2
                    try clear hcz17_0
                    try clear hcz17_1
                    try clear hcz17_2
                    try clear hcz20_0
                    try clear hcz20_1
                    try clear hcz20_2
                    try clear hfz10_0
                    try clear hfz10_1
                    try clear hfz10_2
                    try clear hfz15_0
                    try clear hfz15_1
                    try clear hfz15_2
                    try clear hfz17_0
                    try clear hfz17_1
                    try clear hfz17_2
                    try clear hfz20_0
                    try clear hfz20_1
                    try clear hfz20_2
                    try clear hx286_0
                    try clear hx286_1
                    try clear hx286_2
                    try clear p2
                    try clear p286
                    try clear q286
                    obtain ⟨kq, x5_12, x6_12, x7_12, rfl, rfl, rfl, HA, HJ12, BK287, HB⟩ := hcut
                    cases kq with
                    | zero => exact absurd HA.out (by simp [gangwaylaw22_EnvExact.j2])
                    | succ kj12 =>
                      have H := HA.out
                      clear HA
                      simp only [gangwaylaw22_EnvExact.j2] at H
                      replace H := Option.bind_eq_some_iff.mp H
                      obtain ⟨⟨t291, t292, t293⟩, A210, H⟩ := H
                      replace H : ((env_Check.f kj12 ((rd_T26 l0 x3_1).f0)).bind fun t294 => ((gangwaylaw22_num.f t294).bind fun t295 => (if t295 = x5_12 then ((gangwaylaw22_num.f t293).bind fun t296 => (if t296 = x5_12 then (if t291 = x6_12 then (if t292 = x7_12 then ((gangwaylaw19_Both.f kj12 (([119, 104, 97, 116, 32, 115, 116, 111, 111, 100, 32, 104, 101, 114, 101] : List Int))).bind fun bt335 => (if bt335.1 = true then (if bt335.2.2.2.1 = true then (if x5_12 = 0 then ((gangwayref20_Lay.f kj12 bt335.2.2.2.2.1 bt335.2.2.2.2.2 ((rd_T26 l0 x3_1).f0) ((rd_T26 l0 x3_1).f1) ((rd_T26 l0 x3_1).f2)).bind fun bt347 => (gangwaylaw22_EnvExact.j3 kj12 l0 x3_1 x5_12 (!bt347.1) ((rd_T26 l0 x3_1).f0) ((rd_T26 l0 x3_1).f1) ((rd_T26 l0 x3_1).f2) bt335.2.1 bt335.2.2.1 bt347.2.1 bt347.2.2)) else (gangwaylaw22_EnvExact.j3 kj12 l0 x3_1 x5_12 false ((rd_T26 l0 x3_1).f0) ((rd_T26 l0 x3_1).f1) ((rd_T26 l0 x3_1).f2) bt335.2.1 bt335.2.2.1 bt335.2.2.2.2.1 bt335.2.2.2.2.2)) else (none)) else (none))) else (none)) else (none)) else (none))) else (none)))) = some r := H
                      have A21 := Aside0.mk A210
                      clear A210
                      replace H := Option.bind_eq_some_iff.mp H
                      obtain ⟨t294, A220, H⟩ := H
                      replace H : ((gangwaylaw22_num.f t294).bind fun t295 => (if t295 = x5_12 then ((gangwaylaw22_num.f t293).bind fun t296 => (if t296 = x5_12 then (if t291 = x6_12 then (if t292 = x7_12 then ((gangwaylaw19_Both.f kj12 (([119, 104, 97, 116, 32, 115, 116, 111, 111, 100, 32, 104, 101, 114, 101] : List Int))).bind fun bt335 => (if bt335.1 = true then (if bt335.2.2.2.1 = true then (if x5_12 = 0 then ((gangwayref20_Lay.f kj12 bt335.2.2.2.2.1 bt335.2.2.2.2.2 ((rd_T26 l0 x3_1).f0) ((rd_T26 l0 x3_1).f1) ((rd_T26 l0 x3_1).f2)).bind fun bt347 => (gangwaylaw22_EnvExact.j3 kj12 l0 x3_1 x5_12 (!bt347.1) ((rd_T26 l0 x3_1).f0) ((rd_T26 l0 x3_1).f1) ((rd_T26 l0 x3_1).f2) bt335.2.1 bt335.2.2.1 bt347.2.1 bt347.2.2)) else (gangwaylaw22_EnvExact.j3 kj12 l0 x3_1 x5_12 false ((rd_T26 l0 x3_1).f0) ((rd_T26 l0 x3_1).f1) ((rd_T26 l0 x3_1).f2) bt335.2.1 bt335.2.2.1 bt335.2.2.2.2.1 bt335.2.2.2.2.2)) else (none)) else (none))) else (none)) else (none)) else (none))) else (none))) = some r := H
                      have A22 := Aside0.mk A220
                      clear A220
                      replace H := Option.bind_eq_some_iff.mp H
                      obtain ⟨t295, A230, H⟩ := H
                      replace H : (if t295 = x5_12 then ((gangwaylaw22_num.f t293).bind fun t296 => (if t296 = x5_12 then (if t291 = x6_12 then (if t292 = x7_12 then ((gangwaylaw19_Both.f kj12 (([119, 104, 97, 116, 32, 115, 116, 111, 111, 100, 32, 104, 101, 114, 101] : List Int))).bind fun bt335 => (if bt335.1 = true then (if bt335.2.2.2.1 = true then (if x5_12 = 0 then ((gangwayref20_Lay.f kj12 bt335.2.2.2.2.1 bt335.2.2.2.2.2 ((rd_T26 l0 x3_1).f0) ((rd_T26 l0 x3_1).f1) ((rd_T26 l0 x3_1).f2)).bind fun bt347 => (gangwaylaw22_EnvExact.j3 kj12 l0 x3_1 x5_12 (!bt347.1) ((rd_T26 l0 x3_1).f0) ((rd_T26 l0 x3_1).f1) ((rd_T26 l0 x3_1).f2) bt335.2.1 bt335.2.2.1 bt347.2.1 bt347.2.2)) else (gangwaylaw22_EnvExact.j3 kj12 l0 x3_1 x5_12 false ((rd_T26 l0 x3_1).f0) ((rd_T26 l0 x3_1).f1) ((rd_T26 l0 x3_1).f2) bt335.2.1 bt335.2.2.1 bt335.2.2.2.2.1 bt335.2.2.2.2.2)) else (none)) else (none))) else (none)) else (none)) else (none))) else (none)) = some r := H
                      have A23 := Aside0.mk A230
                      clear A230
                      by_cases c24 : t295 = x5_12
                      · rw [if_pos c24] at H
                        have c24b0 : (t295 == x5_12) = true := beq_iff_eq.mpr c24
                        have c24b1 : (t295 != x5_12) = false := bne_eq_false_iff_eq.mpr c24
                        clear c24
                        replace H := Option.bind_eq_some_iff.mp H
                        obtain ⟨t296, A250, H⟩ := H
                        replace H : (if t296 = x5_12 then (if t291 = x6_12 then (if t292 = x7_12 then ((gangwaylaw19_Both.f kj12 (([119, 104, 97, 116, 32, 115, 116, 111, 111, 100, 32, 104, 101, 114, 101] : List Int))).bind fun bt335 => (if bt335.1 = true then (if bt335.2.2.2.1 = true then (if x5_12 = 0 then ((gangwayref20_Lay.f kj12 bt335.2.2.2.2.1 bt335.2.2.2.2.2 ((rd_T26 l0 x3_1).f0) ((rd_T26 l0 x3_1).f1) ((rd_T26 l0 x3_1).f2)).bind fun bt347 => (gangwaylaw22_EnvExact.j3 kj12 l0 x3_1 x5_12 (!bt347.1) ((rd_T26 l0 x3_1).f0) ((rd_T26 l0 x3_1).f1) ((rd_T26 l0 x3_1).f2) bt335.2.1 bt335.2.2.1 bt347.2.1 bt347.2.2)) else (gangwaylaw22_EnvExact.j3 kj12 l0 x3_1 x5_12 false ((rd_T26 l0 x3_1).f0) ((rd_T26 l0 x3_1).f1) ((rd_T26 l0 x3_1).f2) bt335.2.1 bt335.2.2.1 bt335.2.2.2.2.1 bt335.2.2.2.2.2)) else (none)) else (none))) else (none)) else (none)) else (none)) = some r := H
                        have A25 := Aside0.mk A250
                        clear A250
                        by_cases c26 : t296 = x5_12
                        · rw [if_pos c26] at H
                          have c26b0 : (t296 == x5_12) = true := beq_iff_eq.mpr c26
                          have c26b1 : (t296 != x5_12) = false := bne_eq_false_iff_eq.mpr c26
                          clear c26
                          by_cases c27 : t291 = x6_12
                          · rw [if_pos c27] at H
                            have c27b0 : (t291 == x6_12) = true := beq_iff_eq.mpr c27
                            have c27b1 : (t291 != x6_12) = false := bne_eq_false_iff_eq.mpr c27
                            clear c27
                            by_cases c28 : t292 = x7_12
                            · rw [if_pos c28] at H
                              have c28b0 : (t292 == x7_12) = true := beq_iff_eq.mpr c28
                              have c28b1 : (t292 != x7_12) = false := bne_eq_false_iff_eq.mpr c28
                              clear c28
                              obtain ⟨y332, hy332⟩ : ∃ y_ : List Int, y_ = (([119, 104, 97, 116, 32, 115, 116, 111, 111, 100, 32, 104, 101, 114, 101] : List Int)) := ⟨_, rfl⟩
                              replace H : ((gangwaylaw19_Both.f kj12 y332).bind fun bt335 => (if bt335.1 = true then (if bt335.2.2.2.1 = true then (if x5_12 = 0 then ((gangwayref20_Lay.f kj12 bt335.2.2.2.2.1 bt335.2.2.2.2.2 ((rd_T26 l0 x3_1).f0) ((rd_T26 l0 x3_1).f1) ((rd_T26 l0 x3_1).f2)).bind fun bt347 => (gangwaylaw22_EnvExact.j3 kj12 l0 x3_1 x5_12 (!bt347.1) ((rd_T26 l0 x3_1).f0) ((rd_T26 l0 x3_1).f1) ((rd_T26 l0 x3_1).f2) bt335.2.1 bt335.2.2.1 bt347.2.1 bt347.2.2)) else (gangwaylaw22_EnvExact.j3 kj12 l0 x3_1 x5_12 false ((rd_T26 l0 x3_1).f0) ((rd_T26 l0 x3_1).f1) ((rd_T26 l0 x3_1).f2) bt335.2.1 bt335.2.2.1 bt335.2.2.2.2.1 bt335.2.2.2.2.2)) else (none)) else (none))) = some r := by first | (rw [hy332]; with_reducible exact H) | (have H2_ := (Option.bind_some _ _).symm.trans H; rw [hy332]; with_reducible exact H2_) | (have H2_ := (Option.bind_some _ _).symm.trans H; with_reducible exact H2_) | with_reducible exact H | (rw [hy332]; exact H) | exact H
                              have Ny332 := Aside0.mk hy332
                              clear hy332
                              replace H := Option.bind_eq_some_iff.mp H
                              obtain ⟨⟨t335, t336, t339, t341, t342, t345⟩, A290, H⟩ := H
                              replace H : (if t335 = true then (if t341 = true then (if x5_12 = 0 then ((gangwayref20_Lay.f kj12 t342 t345 ((rd_T26 l0 x3_1).f0) ((rd_T26 l0 x3_1).f1) ((rd_T26 l0 x3_1).f2)).bind fun bt347 => (gangwaylaw22_EnvExact.j3 kj12 l0 x3_1 x5_12 (!bt347.1) ((rd_T26 l0 x3_1).f0) ((rd_T26 l0 x3_1).f1) ((rd_T26 l0 x3_1).f2) t336 t339 bt347.2.1 bt347.2.2)) else (gangwaylaw22_EnvExact.j3 kj12 l0 x3_1 x5_12 false ((rd_T26 l0 x3_1).f0) ((rd_T26 l0 x3_1).f1) ((rd_T26 l0 x3_1).f2) t336 t339 t342 t345)) else (none)) else (none)) = some r := H
                              have A29 := Aside0.mk A290
                              clear A290
                              by_cases c30 : t335 = true
                              · subst c30
                                have H1 : (if t341 = true then (if x5_12 = 0 then ((gangwayref20_Lay.f kj12 t342 t345 ((rd_T26 l0 x3_1).f0) ((rd_T26 l0 x3_1).f1) ((rd_T26 l0 x3_1).f2)).bind fun bt347 => (gangwaylaw22_EnvExact.j3 kj12 l0 x3_1 x5_12 (!bt347.1) ((rd_T26 l0 x3_1).f0) ((rd_T26 l0 x3_1).f1) ((rd_T26 l0 x3_1).f2) t336 t339 bt347.2.1 bt347.2.2)) else (gangwaylaw22_EnvExact.j3 kj12 l0 x3_1 x5_12 false ((rd_T26 l0 x3_1).f0) ((rd_T26 l0 x3_1).f1) ((rd_T26 l0 x3_1).f2) t336 t339 t342 t345)) else (none)) = some r := by rw [if_pos rfl] at H; exact H
                                clear H
                                have H := H1
                                clear H1
                                by_cases c31 : t341 = true
                                · subst c31
                                  have H1 : (if x5_12 = 0 then ((gangwayref20_Lay.f kj12 t342 t345 ((rd_T26 l0 x3_1).f0) ((rd_T26 l0 x3_1).f1) ((rd_T26 l0 x3_1).f2)).bind fun bt347 => (gangwaylaw22_EnvExact.j3 kj12 l0 x3_1 x5_12 (!bt347.1) ((rd_T26 l0 x3_1).f0) ((rd_T26 l0 x3_1).f1) ((rd_T26 l0 x3_1).f2) t336 t339 bt347.2.1 bt347.2.2)) else (gangwaylaw22_EnvExact.j3 kj12 l0 x3_1 x5_12 false ((rd_T26 l0 x3_1).f0) ((rd_T26 l0 x3_1).f1) ((rd_T26 l0 x3_1).f2) t336 t339 t342 t345)) = some r := by rw [if_pos rfl] at H; exact H
                                  clear H
                                  have H := H1
                                  clear H1
                                  have HC32 := Aside0.mk H
                                  clear H
                                  have hcz33_0 : wc.cell? ⟨gb287, 0, none⟩ = some (.slice A286_0 ((rd_T26 l0 x3_1).f0).length c286_0) := (blk_cell BK287.out 0).trans rfl
                                  have hcz33_1 : wc.cell? ⟨gb287, 1, none⟩ = some (.int .i64 ((rd_T26 l0 x3_1).f1)) := (blk_cell BK287.out 1).trans rfl
                                  have hcz33_2 : wc.cell? ⟨gb287, 2, none⟩ = some (.int .i64 ((rd_T26 l0 x3_1).f2)) := (blk_cell BK287.out 2).trans rfl
                                  have hfz33_0 := blk_frozen BK287.out 0
                                  have hfz33_1 := blk_frozen BK287.out 1
                                  have hfz33_2 := blk_frozen BK287.out 2
                                  go_upto_region 20 with (first | ((with_reducible refine gate_callee (f := 7) rfl ?_); refine goesL_ (some 43) rfl rfl Try.func7 (by kernel_rfl) rfl #[.slice A286_0 ((rd_T26 l0 x3_1).f0).length c286_0] rfl (by (try simp only [List.map_toArray, List.map_cons, List.map_nil]); first | done | rfl | (simp only [List.length_drop, List.length_take]; rfl)) ?_; (with_reducible refine (env_Sizes.calls kj12 _ _ ((rd_T26 l0 x3_1).f0) t291 t292 t293 _ ?side1 ?side2 A21.out).mono ?_); (case side1 => repeat (first | exact (Kd.C_below HR286_0.out HB.out) | (with_reducible refine Kd.C_alloc ?_ _) | (with_reducible refine Kd.C_drewN ?_ _) | (with_reducible refine Kd.C_drew ?_))); (case side2 => exact HC286_0.out); rintro e w' ⟨rfl, ⟨nd, rfl⟩⟩; refine ⟨_, rfl, ?_⟩) | ((with_reducible refine gate_callee (f := 14) rfl ?_); refine goesL_ (some 49) rfl rfl Try.func14 (by kernel_rfl) rfl #[.slice A286_0 ((rd_T26 l0 x3_1).f0).length c286_0] rfl (by (try simp only [List.map_toArray, List.map_cons, List.map_nil]); first | done | rfl | (simp only [List.length_drop, List.length_take]; rfl)) ?_; (with_reducible refine (env_Check.calls kj12 _ _ ((rd_T26 l0 x3_1).f0) t294 _ ?side1 ?side2 A22.out).mono ?_); (case side1 => repeat (first | exact (Kd.C_below HR286_0.out (by repeat (first | (with_reducible first | exact HB.out | apply below_alloc | apply pw_below_drewN | apply below_drew1 | refine below_set ?_ GE287.out) | exact HB.out))) | (with_reducible refine Kd.C_alloc ?_ _) | (with_reducible refine Kd.C_drewN ?_ _) | (with_reducible refine Kd.C_drew ?_))); (case side2 => exact HC286_0.out); rintro e w' ⟨rfl, ⟨nd, rfl⟩⟩; refine ⟨_, rfl, ?_⟩) | ((with_reducible refine gate_callee (f := 8) rfl ?_); refine goesL_ (some 50) rfl rfl Try.func8 (by kernel_rfl) rfl #[.int .i64 t294] rfl (by (try simp only [List.map_toArray, List.map_cons, List.map_nil]); first | done | rfl | (simp only [List.length_drop, List.length_take]; rfl)) ?_; (with_reducible refine (gangwaylaw22_num.calls t294 t295 _ A23.out).mono ?_); rintro e w' ⟨rfl, ⟨nd, rfl⟩⟩; refine ⟨_, rfl, ?_⟩) | (go_at_call 8; (with_reducible refine (gangwaylaw22_num.calls t293 t296 _ A25.out).mono ?_); rintro e w' ⟨rfl, ⟨nd, rfl⟩⟩) | ((with_reducible refine gate_dst (N := 71) rfl ?_); refine Go.Proofs.YtpaodfhhnhbacaaO.const_event ?hg (N := 71) ?hd 32 5 Try.underlying32 Try.underlying5 (x := ?xb_w34) ?ho (C := #[.int .u8 119, .int .u8 104, .int .u8 97, .int .u8 116, .int .u8 32, .int .u8 115, .int .u8 116, .int .u8 111, .int .u8 111, .int .u8 100, .int .u8 32, .int .u8 104, .int .u8 101, .int .u8 114, .int .u8 101]) (l := y332) (n := 15) (by rw [Ny332.out]; rfl) (by rw [Ny332.out]; rfl) (by decide) ?hx ?_; (case hd => rfl); (case hg => rfl); (case ho => rfl); (case hx => rfl); intro A334 c334 w34 hr_ hc_ hb; have n0_ := Aside0.mk (blk_below (g := gb287) (o := .cells #[.slice A286_0 ((rd_T26 l0 x3_1).f0).length c286_0, .int .i64 ((rd_T26 l0 x3_1).f1), .int .i64 ((rd_T26 l0 x3_1).f2)] 26 (0, 0)) (by (with_reducible repeat (first | refine blk_drewN ?_ _ | refine blk_drew ?_ | refine blk_alloc ?_ _)); exact BK287.out) hb); have n1_ := Aside0.mk (hr_); have n2_ := Aside0.mk (hc_); have n3_ := Aside0.mk (below_step (by repeat (first | (with_reducible first | exact HB.out | apply below_alloc | apply pw_below_drewN | apply below_drew1 | refine below_set ?_ GE287.out) | exact HB.out)) hb); clear BK287; clear HB; have BK287 := n0_; have HR334 := n1_; have HC334 := n2_; have HB := n3_; clear n0_ n1_ n2_ n3_; clear hb hr_ hc_) | ((with_reducible refine gate_callee (f := 15) rfl ?_); refine goesL_ (some 72) rfl rfl Try.func15 (by kernel_rfl) rfl #[.slice A334 y332.length c334] rfl (by (try simp only [List.map_toArray, List.map_cons, List.map_nil]); first | done | rfl | (simp only [List.length_drop, List.length_take]; rfl)) ?_; (with_reducible refine (gangwaylaw19_Both.calls kj12 _ _ y332 true t336 t339 true t342 t345 _ ?side1 ?side2 A29.out).mono ?_); (case side1 => repeat (first | exact (by repeat (first | (with_reducible exact HR334.out) | (with_reducible refine Kd.C_alloc ?_ _) | (with_reducible refine Kd.C_drewN ?_ _) | (with_reducible refine Kd.C_drew ?_) | exact HR334.out)) | (with_reducible refine Kd.C_alloc ?_ _) | (with_reducible refine Kd.C_drewN ?_ _) | (with_reducible refine Kd.C_drew ?_))); (case side2 => exact HC334.out); rintro e w35 ⟨v337, v343, pz340, pz346, rfl, ho0, ho1, hz340, hz346, hb⟩; refine ⟨_, rfl, ?_⟩; have n0_ := Aside0.mk (Kd.R_lower ho0 (below_size (by repeat (first | (with_reducible first | exact HB.out | apply below_alloc | apply pw_below_drewN | apply below_drew1 | refine below_set ?_ GE287.out) | exact HB.out)))); have n1_ := Aside0.mk (Kd.R_lower ho1 (below_size (by repeat (first | (with_reducible first | exact HB.out | apply below_alloc | apply pw_below_drewN | apply below_drew1 | refine below_set ?_ GE287.out) | exact HB.out)))); have n2_ := Aside0.mk (blk_below (g := gb287) (o := .cells #[.slice A286_0 ((rd_T26 l0 x3_1).f0).length c286_0, .int .i64 ((rd_T26 l0 x3_1).f1), .int .i64 ((rd_T26 l0 x3_1).f2)] 26 (0, 0)) (by (with_reducible repeat (first | refine blk_drewN ?_ _ | refine blk_drew ?_ | refine blk_alloc ?_ _)); exact BK287.out) hb); have n3_ := Aside0.mk (Kd.C_below (by repeat (first | (with_reducible exact HR334.out) | (with_reducible refine Kd.C_alloc ?_ _) | (with_reducible refine Kd.C_drewN ?_ _) | (with_reducible refine Kd.C_drew ?_) | exact HR334.out)) hb); have n4_ := Aside0.mk ((show (true = true → ∃ g_ : Nat, pz340 = .pointer (some ⟨g_, 0, none⟩) ∧ IsS72 w w35 g_ v337 t339 ∧ gb287 ≠ g_) ∧ (true = false → pz340 = .pointer none) from ⟨fun h_ => (hz340.1 h_).elim fun g_ hg_ => ⟨g_, hg_.1, hg_.2.lower ((below_size (by repeat (first | (with_reducible first | exact HB.out | apply below_alloc | apply pw_below_drewN | apply below_drew1 | refine below_set ?_ GE287.out) | exact HB.out)))), Nat.ne_of_lt (Nat.lt_of_lt_of_le (blk_lt (g := gb287) (o := .cells #[.slice A286_0 ((rd_T26 l0 x3_1).f0).length c286_0, .int .i64 ((rd_T26 l0 x3_1).f1), .int .i64 ((rd_T26 l0 x3_1).f2)] 26 (0, 0)) (by (with_reducible repeat (first | refine blk_drewN ?_ _ | refine blk_drew ?_ | refine blk_alloc ?_ _)); exact BK287.out)) hg_.2.ge)⟩, hz340.2⟩)); have n5_ := Aside0.mk ((show (true = true → ∃ g_ : Nat, pz346 = .pointer (some ⟨g_, 0, none⟩) ∧ IsS59 w w35 g_ v343 t345 ∧ gb287 ≠ g_) ∧ (true = false → pz346 = .pointer none) from ⟨fun h_ => (hz346.1 h_).elim fun g_ hg_ => ⟨g_, hg_.1, hg_.2.lower ((below_size (by repeat (first | (with_reducible first | exact HB.out | apply below_alloc | apply pw_below_drewN | apply below_drew1 | refine below_set ?_ GE287.out) | exact HB.out)))), Nat.ne_of_lt (Nat.lt_of_lt_of_le (blk_lt (g := gb287) (o := .cells #[.slice A286_0 ((rd_T26 l0 x3_1).f0).length c286_0, .int .i64 ((rd_T26 l0 x3_1).f1), .int .i64 ((rd_T26 l0 x3_1).f2)] 26 (0, 0)) (by (with_reducible repeat (first | refine blk_drewN ?_ _ | refine blk_drew ?_ | refine blk_alloc ?_ _)); exact BK287.out)) hg_.2.ge)⟩, hz346.2⟩)); have n6_ := Aside0.mk (below_step (by repeat (first | (with_reducible first | exact HB.out | apply below_alloc | apply pw_below_drewN | apply below_drew1 | refine below_set ?_ GE287.out) | exact HB.out)) hb); clear BK287; clear HR334; clear HB; have HO338 := n0_; have HO344 := n1_; have BK287 := n2_; have HR334 := n3_; have HZ340 := n4_; have HZ346 := n5_; have HB := n6_; clear n0_ n1_ n2_ n3_ n4_ n5_ n6_; (try clear hb); (try clear hb2); (try clear hk); (try clear hi); (try clear ho0); (try clear ho1); obtain ⟨g340, e_, hi_, hn0_⟩ := HZ340.out.1 rfl; subst e_; have HI340 := Aside0.mk hi_; clear hi_ HZ340; have NB287_340 := Aside0.mk hn0_; have NB340_287 := Aside0.mk (Ne.symm hn0_); clear hn0_; obtain ⟨g346, e_, hi_, hn0_⟩ := HZ346.out.1 rfl; subst e_; have HI346 := Aside0.mk hi_; clear hi_ HZ346; have NB287_346 := Aside0.mk hn0_; have NB346_287 := Aside0.mk (Ne.symm hn0_); clear hn0_; have NB340_346 := Aside0.mk (IsS72.ne_blk HI340.out HI346.out.1 (by decide)); have NB346_340 := Aside0.mk (Ne.symm NB340_346.out)))
                                  (try simp only [Act.put, List.setIfInBounds_toArray, List.set_cons_zero, List.set_cons_succ])
                                  go_cut [90] (fun v90 wc => ∃ (kq : Nat) (x90_31 : Bool) (x347000_31 : List Int) (x347001_31 : Int) (u347000 : Value), v90 = .bool x90_31 ∧ Aside0 (gangwaylaw22_EnvExact.j3 kq l0 x3_1 x5_12 x90_31 ((rd_T26 l0 x3_1).f0) ((rd_T26 l0 x3_1).f1) ((rd_T26 l0 x3_1).f2) t336 t339 x347000_31 x347001_31 = some r) ∧ Aside0 (kq ≤ kj12) ∧ Aside0 (Kd.R (Kd.int .u8) 5 wc w.heap.size (fun k_ => some k_ ≠ (u347000 : Value).ownBlock) v337 t336) ∧ Aside0 (Kd.R (Kd.int .u8) 5 wc w.heap.size (fun k_ => some k_ ≠ (v337 : Value).ownBlock) u347000 x347000_31) ∧ Aside0 (wc.heap[gb287]? = some (.cells #[(.slice A286_0 ((rd_T26 l0 x3_1).f0).length c286_0), .int .i64 ((rd_T26 l0 x3_1).f1), .int .i64 ((rd_T26 l0 x3_1).f2)] 26 (0, 0))) ∧ Aside0 (IsS72 w wc g340 v337 t339) ∧ Aside0 (IsS59 w wc g346 u347000 x347001_31) ∧ Aside0 (Below w.heap.size w wc))
                                  case first =>
                                    have H := HC32.out
                                    clear HC32
                                    by_cases c36 : x5_12 = 0
                                    · rw [if_pos c36] at H
                                      have c36b0 : (x5_12 == 0) = true := beq_iff_eq.mpr c36
                                      have c36b1 : (x5_12 != 0) = false := bne_eq_false_iff_eq.mpr c36
                                      clear c36
                                      (first | rw [c36b0] | (simp only [i64_w, i32_w]; rw [c36b0]) | skip)
                                      replace H := Option.bind_eq_some_iff.mp H
                                      obtain ⟨⟨t347, t348, t351⟩, A370, H⟩ := H
                                      replace H : (gangwaylaw22_EnvExact.j3 kj12 l0 x3_1 x5_12 (!t347) ((rd_T26 l0 x3_1).f0) ((rd_T26 l0 x3_1).f1) ((rd_T26 l0 x3_1).f2) t336 t339 t348 t351) = some r := H
                                      have A37 := Aside0.mk A370
                                      clear A370
                                      have H' := Aside0.mk H
                                      clear H
                                      have hnb38 := NB287_340.out
                                      have hnc38 := NB340_287.out
                                      have hnb39 := NB287_346.out
                                      have hnc39 := NB346_287.out
                                      have hcz40_0 : w35.cell? ⟨gb287, 0, none⟩ = some (.slice A286_0 ((rd_T26 l0 x3_1).f0).length c286_0) := (blk_cell BK287.out 0).trans rfl
                                      have hcz40_1 : w35.cell? ⟨gb287, 1, none⟩ = some (.int .i64 ((rd_T26 l0 x3_1).f1)) := (blk_cell BK287.out 1).trans rfl
                                      have hcz40_2 : w35.cell? ⟨gb287, 2, none⟩ = some (.int .i64 ((rd_T26 l0 x3_1).f2)) := (blk_cell BK287.out 2).trans rfl
                                      have hfz40_0 := blk_frozen BK287.out 0
                                      have hfz40_1 := blk_frozen BK287.out 1
                                      have hfz40_2 := blk_frozen BK287.out 2
                                      go_wp2_with (first | (go_at_call 16; (with_reducible refine (gangwayref20_Lay.calls kj12 g346 (fun k_ => some k_ = (v343 : Value).ownBlock) v343 t342 t345 _ _ ((rd_T26 l0 x3_1).f0) ((rd_T26 l0 x3_1).f1) ((rd_T26 l0 x3_1).f2) t347 t348 t351 w _ ?side1 ?side2 ?side3 ?side4 ?side5 A37.out).mono ?_); (case side1 => repeat (first | (with_reducible first | exact HI346.out | apply IsS59.alloc | apply IsS59.drewN | apply IsS59.drew | apply IsS59.set_0 | apply IsS59.set_1 | refine IsS59.far ?_ NB346_287.out _) | exact HI346.out)); (case side2 => repeat (first | (with_reducible first | exact HB.out | apply below_alloc | apply pw_below_drewN | apply below_drew1 | refine below_set ?_ (IsS72.ge HI340.out) | refine below_set ?_ (IsS59.ge HI346.out) | refine below_set ?_ GE287.out) | exact HB.out)); (case side3 => exact Kd.R_tight rfl HO344.out); (case side4 => exact Kd.C_kept_came Kd.heap_string HR286_0.out (by repeat (first | (with_reducible first | exact HB.out | apply below_alloc | apply pw_below_drewN | apply below_drew1 | refine below_set ?_ (IsS72.ge HI340.out) | refine below_set ?_ (IsS59.ge HI346.out) | refine below_set ?_ GE287.out) | exact HB.out)) (fun k_ hs_ => Or.elim hs_ (fun hs_ => (fun e_ => Kd.R_base HO344.out k_ e_.symm) hs_) (fun e_ => (by rw [e_]; exact IsS59.ge HI346.out)))); (case side5 => exact HC286_0.out); rintro e w41 ⟨v349, rfl, ho0, hi, hb, hkp⟩; have n0_ := Aside0.mk (blk_kept (o := .cells #[.slice A286_0 ((rd_T26 l0 x3_1).f0).length c286_0, .int .i64 ((rd_T26 l0 x3_1).f1), .int .i64 ((rd_T26 l0 x3_1).f2)] 26 (0, 0)) (by (with_reducible repeat (first | refine blk_drewN ?_ _ | refine blk_drew ?_ | refine blk_alloc ?_ _)); exact BK287.out) hkp (fun hs_ => Or.elim hs_ (fun hs_ => (fun e_ => (Kd.R_ne HO344.out BK287.out (by decide)) e_) hs_) (fun e_ => NB287_346.out e_))); have n1_ := Aside0.mk (Kd.R_mono (ok' := fun k_ => some k_ ≠ (v349 : Value).ownBlock) (Kd.R_keptB ((IsS59.apart HI346.out HO338.out (by decide))) hkp (fun k_ hk_ hs_ => Or.elim hs_ (fun hs_ => (hk_.1) hs_) (fun e_ => (hk_.2) e_))) (fun k_ hk_ => fun e_ => Or.elim (ho0.1 k_ e_.symm) (fun hs_ => hk_.2.1 (.inl hs_)) (fun hn_ => Nat.not_le.2 hk_.2.2 hn_))); have n2_ := Aside0.mk (IsS72.kept (by repeat (first | (with_reducible first | exact HI340.out | apply IsS72.alloc | apply IsS72.drewN | apply IsS72.drew | apply IsS72.set_0 | apply IsS72.set_1 | refine IsS72.far ?_ NB340_287.out _) | exact HI340.out)) hkp (fun hs_ => Or.elim hs_ (fun hs_ => (fun e_ => (IsS72.own_ne HI340.out HO344.out (by decide)) e_) hs_) (fun e_ => NB340_346.out e_))); have n3_ := Aside0.mk (hi); have n4_ := Aside0.mk (Kd.R_mono (ok' := fun k_ => some k_ ≠ (v337 : Value).ownBlock) ho0 (fun k_ hk_ => Or.elim hk_ (fun hs_ => fun e_ => ((((IsS59.apart HI346.out HO338.out (by decide))).1 k_ e_.symm).1) hs_) (fun hn_ => (Kd.fresh' (Kd.R_lt (by (with_reducible repeat (first | apply Kd.R_alloc | apply Kd.R_drewN | apply Kd.R_drew)); exact HO338.out)) k_ hn_)))); have n5_ := Aside0.mk (hb); clear BK287; clear HO338; clear HI340; clear HI346; clear HB; clear HO344; have BK287 := n0_; have HO338 := n1_; have HI340 := n2_; have HI346 := n3_; have HO350 := n4_; have HB := n5_; clear n0_ n1_ n2_ n3_ n4_ n5_; (try clear hb); (try clear hkp); (try clear ho0)))
                                      go_meet
                                      case rel => exact ⟨_, (!t347), (t348), (t351), (v349), (by first | rfl | (simp; done) | (simp [*]; done)), H', ⟨by have := HK1.out; have := HJ1.out; have := HJ12.out; first | omega | exact Nat.le_refl _⟩, ⟨by (with_reducible repeat (first | apply Kd.R_alloc | apply Kd.R_drewN | apply Kd.R_drew)); exact HO338.out⟩, ⟨by (with_reducible repeat (first | apply Kd.R_alloc | apply Kd.R_drewN | apply Kd.R_drew)); exact HO350.out⟩, ⟨by (with_reducible repeat (first | refine blk_drewN ?_ _ | refine blk_drew ?_ | refine blk_alloc ?_ _)); exact BK287.out⟩, ⟨by repeat (first | (with_reducible first | exact HI340.out | apply IsS72.alloc | apply IsS72.drewN | apply IsS72.drew | apply IsS72.set_0 | apply IsS72.set_1 | refine IsS72.far ?_ NB340_287.out _) | exact HI340.out)⟩, ⟨by repeat (first | (with_reducible first | exact HI346.out | apply IsS59.alloc | apply IsS59.drewN | apply IsS59.drew | apply IsS59.set_0 | apply IsS59.set_1 | refine IsS59.far ?_ NB346_287.out _) | exact HI346.out)⟩, ⟨by repeat (first | (with_reducible first | exact HB.out | apply below_alloc | apply pw_below_drewN | apply below_drew1 | refine below_set ?_ (IsS72.ge HI340.out) | refine below_set ?_ (IsS59.ge HI346.out) | refine below_set ?_ GE287.out) | exact HB.out)⟩⟩
                                    · rw [if_neg c36] at H
                                      have c36b0 : (x5_12 == 0) = false := beq_eq_false_iff_ne.mpr c36
                                      have c36b1 : (x5_12 != 0) = true := bne_iff_ne.mpr c36
                                      (first | rw [c36b0] | (simp only [i64_w, i32_w]; rw [c36b0]) | skip)
                                      have H' := Aside0.mk H
                                      clear H
                                      go_wp2
                                      go_meet
                                      case rel => exact ⟨_, (false), (t342), (t345), (v343), (by first | rfl | (simp; done) | (simp [*]; done)), H', ⟨by have := HK1.out; have := HJ1.out; have := HJ12.out; first | omega | exact Nat.le_refl _⟩, ⟨by (with_reducible repeat (first | apply Kd.R_alloc | apply Kd.R_drewN | apply Kd.R_drew)); exact HO338.out⟩, ⟨by (with_reducible repeat (first | apply Kd.R_alloc | apply Kd.R_drewN | apply Kd.R_drew)); exact HO344.out⟩, ⟨by (with_reducible repeat (first | refine blk_drewN ?_ _ | refine blk_drew ?_ | refine blk_alloc ?_ _)); exact BK287.out⟩, ⟨by repeat (first | (with_reducible first | exact HI340.out | apply IsS72.alloc | apply IsS72.drewN | apply IsS72.drew | apply IsS72.set_0 | apply IsS72.set_1 | refine IsS72.far ?_ NB340_287.out _) | exact HI340.out)⟩, ⟨by repeat (first | (with_reducible first | exact HI346.out | apply IsS59.alloc | apply IsS59.drewN | apply IsS59.drew | apply IsS59.set_0 | apply IsS59.set_1 | refine IsS59.far ?_ NB346_287.out _) | exact HI346.out)⟩, ⟨by repeat (first | (with_reducible first | exact HB.out | apply below_alloc | apply pw_below_drewN | apply below_drew1 | refine below_set ?_ (IsS72.ge HI340.out) | refine below_set ?_ (IsS59.ge HI346.out) | refine below_set ?_ GE287.out) | exact HB.out)⟩⟩
                                  case rest =>
                                    clear HC32
                                    try clear c1
                                    try clear c2
                                    try clear p2
                                    try clear q2
                                    try clear hx2
                                    try clear c3
                                    try clear c3b0
                                    try clear c4
                                    try clear c5
                                    try clear c5b0
                                    try clear c6
                                    try clear c6b0
                                    try clear c7
                                    try clear c8
                                    try clear c12
                                    try clear c13
                                    try clear c14
                                    try clear c15
                                    try clear c18
                                    try clear c24
                                    try clear c24b0
                                    try clear c24b1
                                    try clear c26
                                    try clear c26b0
                                    try clear c26b1
                                    try clear c27
                                    try clear c27b0
                                    try clear c27b1
                                    try clear c28
                                    try clear c28b0
                                    try clear c28b1
                                    try clear p28
                                    try clear q28
                                    try clear hx28
                                    try clear c30
                                    try clear c31
                                    try clear c33
                                    try clear c36
                                    try clear c36b0
                                    try clear c36b1
                                    try clear c38
                                    try clear c39
                                    try clear hcz10_0
                                    try clear hcz10_1
                                    try clear hcz10_2
                                    try clear hcz15_0
                                    try clear hcz15_1
                                    try clear hcz15_2
                                    try clear hcz17_0
                                    try clear hcz17_1
                                    try clear hcz17_2
                                    try clear hcz20_0
                                    try clear hcz20_1
                                    try clear hcz20_2
                                    try clear hcz33_0
                                    try clear hcz33_1
                                    try clear hcz33_2
                                    try clear hcz40_0
                                    try clear hcz40_1
                                    try clear hcz40_2
                                    try clear hfz10_0
                                    try clear hfz10_1
                                    try clear hfz10_2
                                    try clear hfz15_0
                                    try clear hfz15_1
                                    try clear hfz15_2
                                    try clear hfz17_0
                                    try clear hfz17_1
                                    try clear hfz17_2
                                    try clear hfz20_0
                                    try clear hfz20_1
                                    try clear hfz20_2
                                    try clear hfz33_0
                                    try clear hfz33_1
                                    try clear hfz33_2
                                    try clear hfz40_0
                                    try clear hfz40_1
                                    try clear hfz40_2
                                    try clear hx286_0
                                    try clear hx286_1
                                    try clear hx286_2
                                    try clear p2
                                    try clear p286
                                    try clear q2
                                    try clear q286
                                    obtain ⟨kq, x90_31, x347000_31, x347001_31, u347000, rfl, HA, HJ31, HO_341000, HO_347000, BK287, HI340, HI346, HB⟩ := hcut
                                    cases kq with
                                    | zero => exact absurd HA.out (by simp [gangwaylaw22_EnvExact.j3])
                                    | succ kj31 =>
                                      have H := HA.out
                                      clear HA
                                      simp only [gangwaylaw22_EnvExact.j3] at H
                                      have HC42 := Aside0.mk H
                                      clear H
                                      go_upto_if 90 with (fail)
                                      go_cut [13] (fun v13 wc => ∃ (kq : Nat) (x13_41 : Int), v13 = .int .i64 x13_41 ∧ Aside0 (gangwaylaw22_EnvExact.j4 kq l0 x3_1 x13_41 ((rd_T26 l0 x3_1).f0) ((rd_T26 l0 x3_1).f1) ((rd_T26 l0 x3_1).f2) t336 t339 x347000_31 x347001_31 = some r) ∧ Aside0 (kq ≤ kj31) ∧ Aside0 (Kd.R (Kd.int .u8) 5 wc w.heap.size (fun k_ => some k_ ≠ (u347000 : Value).ownBlock) v337 t336) ∧ Aside0 (Kd.R (Kd.int .u8) 5 wc w.heap.size (fun k_ => some k_ ≠ (v337 : Value).ownBlock) u347000 x347000_31) ∧ Aside0 (wc.heap[gb287]? = some (.cells #[(.slice A286_0 ((rd_T26 l0 x3_1).f0).length c286_0), .int .i64 ((rd_T26 l0 x3_1).f1), .int .i64 ((rd_T26 l0 x3_1).f2)] 26 (0, 0))) ∧ Aside0 (IsS72 w wc g340 v337 t339) ∧ Aside0 (IsS59 w wc g346 u347000 x347001_31) ∧ Aside0 (Below w.heap.size w wc))
                                      case first =>
                                        have H := HC42.out
                                        clear HC42
                                        by_cases c43 : x90_31 = true
                                        · subst c43
                                          have H1 : (gangwaylaw22_EnvExact.j4 kj31 l0 x3_1 21 ((rd_T26 l0 x3_1).f0) ((rd_T26 l0 x3_1).f1) ((rd_T26 l0 x3_1).f2) t336 t339 x347000_31 x347001_31) = some r := by rw [if_pos rfl] at H; exact H
                                          clear H
                                          have H := H1
                                          clear H1
                                          have H' := Aside0.mk H
                                          clear H
                                          go_wp2
                                          go_meet
                                          case rel => exact ⟨_, (21), (by first | rfl | (simp; done) | (simp [*]; done)), H', ⟨by have := HK1.out; have := HJ1.out; have := HJ12.out; have := HJ31.out; first | omega | exact Nat.le_refl _⟩, ⟨by (with_reducible repeat (first | apply Kd.R_alloc | apply Kd.R_drewN | apply Kd.R_drew)); exact HO_341000.out⟩, ⟨by (with_reducible repeat (first | apply Kd.R_alloc | apply Kd.R_drewN | apply Kd.R_drew)); exact HO_347000.out⟩, ⟨by (with_reducible repeat (first | refine blk_drewN ?_ _ | refine blk_drew ?_ | refine blk_alloc ?_ _)); exact BK287.out⟩, ⟨by repeat (first | (with_reducible first | exact HI340.out | apply IsS72.alloc | apply IsS72.drewN | apply IsS72.drew | apply IsS72.set_0 | apply IsS72.set_1 | refine IsS72.far ?_ NB340_287.out _) | exact HI340.out)⟩, ⟨by repeat (first | (with_reducible first | exact HI346.out | apply IsS59.alloc | apply IsS59.drewN | apply IsS59.drew | apply IsS59.set_0 | apply IsS59.set_1 | refine IsS59.far ?_ NB346_287.out _) | exact HI346.out)⟩, ⟨by repeat (first | (with_reducible first | exact HB.out | apply below_alloc | apply pw_below_drewN | apply below_drew1 | refine below_set ?_ (IsS72.ge HI340.out) | refine below_set ?_ (IsS59.ge HI346.out) | refine below_set ?_ GE287.out) | exact HB.out)⟩⟩
                                        · replace c43 := Bool.eq_false_iff.mpr c43
                                          subst c43
                                          have H1 : (gangwaylaw22_EnvExact.j4 kj31 l0 x3_1 x5_12 ((rd_T26 l0 x3_1).f0) ((rd_T26 l0 x3_1).f1) ((rd_T26 l0 x3_1).f2) t336 t339 x347000_31 x347001_31) = some r := by rw [if_neg (show ¬ (false = true) by decide)] at H; exact H
                                          clear H
                                          have H := H1
                                          clear H1
                                          have H' := Aside0.mk H
                                          clear H
                                          go_wp2
                                          go_meet
                                          case rel => exact ⟨_, (x5_12), (by first | rfl | (simp; done) | (simp [*]; done)), H', ⟨by have := HK1.out; have := HJ1.out; have := HJ12.out; have := HJ31.out; first | omega | exact Nat.le_refl _⟩, ⟨by (with_reducible repeat (first | apply Kd.R_alloc | apply Kd.R_drewN | apply Kd.R_drew)); exact HO_341000.out⟩, ⟨by (with_reducible repeat (first | apply Kd.R_alloc | apply Kd.R_drewN | apply Kd.R_drew)); exact HO_347000.out⟩, ⟨by (with_reducible repeat (first | refine blk_drewN ?_ _ | refine blk_drew ?_ | refine blk_alloc ?_ _)); exact BK287.out⟩, ⟨by repeat (first | (with_reducible first | exact HI340.out | apply IsS72.alloc | apply IsS72.drewN | apply IsS72.drew | apply IsS72.set_0 | apply IsS72.set_1 | refine IsS72.far ?_ NB340_287.out _) | exact HI340.out)⟩, ⟨by repeat (first | (with_reducible first | exact HI346.out | apply IsS59.alloc | apply IsS59.drewN | apply IsS59.drew | apply IsS59.set_0 | apply IsS59.set_1 | refine IsS59.far ?_ NB346_287.out _) | exact HI346.out)⟩, ⟨by repeat (first | (with_reducible first | exact HB.out | apply below_alloc | apply pw_below_drewN | apply below_drew1 | refine below_set ?_ (IsS72.ge HI340.out) | refine below_set ?_ (IsS59.ge HI346.out) | refine below_set ?_ GE287.out) | exact HB.out)⟩⟩
                                      case rest =>
                                        clear HC42
                                        try clear c1
                                        try clear c2
                                        try clear p2
                                        try clear q2
                                        try clear hx2
                                        try clear c3
                                        try clear c3b0
                                        try clear c4
                                        try clear c5
                                        try clear c5b0
                                        try clear c6
                                        try clear c6b0
                                        try clear c7
                                        try clear c8
                                        try clear c12
                                        try clear c13
                                        try clear c14
                                        try clear c15
                                        try clear c18
                                        try clear c24
                                        try clear c24b0
                                        try clear c24b1
                                        try clear c26
                                        try clear c26b0
                                        try clear c26b1
                                        try clear c27
                                        try clear c27b0
                                        try clear c27b1
                                        try clear c28
                                        try clear c28b0
                                        try clear c28b1
                                        try clear p28
                                        try clear q28
                                        try clear hx28
                                        try clear c30
                                        try clear c31
                                        try clear c33
                                        try clear c36
                                        try clear c36b0
                                        try clear c36b1
                                        try clear c38
                                        try clear c39
                                        try clear c43
                                        try clear hcz10_0
                                        try clear hcz10_1
                                        try clear hcz10_2
                                        try clear hcz15_0
                                        try clear hcz15_1
                                        try clear hcz15_2
                                        try clear hcz17_0
                                        try clear hcz17_1
                                        try clear hcz17_2
                                        try clear hcz20_0
                                        try clear hcz20_1
                                        try clear hcz20_2
                                        try clear hcz33_0
                                        try clear hcz33_1
                                        try clear hcz33_2
                                        try clear hcz40_0
                                        try clear hcz40_1
                                        try clear hcz40_2
                                        try clear hfz10_0
                                        try clear hfz10_1
                                        try clear hfz10_2
                                        try clear hfz15_0
                                        try clear hfz15_1
                                        try clear hfz15_2
                                        try clear hfz17_0
                                        try clear hfz17_1
                                        try clear hfz17_2
                                        try clear hfz20_0
                                        try clear hfz20_1
                                        try clear hfz20_2
                                        try clear hfz33_0
                                        try clear hfz33_1
                                        try clear hfz33_2
                                        try clear hfz40_0
                                        try clear hfz40_1
                                        try clear hfz40_2
                                        try clear hx286_0
                                        try clear hx286_1
                                        try clear hx286_2
                                        try clear p2
                                        try clear p28
                                        try clear p286
                                        try clear q2
                                        try clear q28
                                        try clear q286
                                        obtain ⟨kq, x13_41, rfl, HA, HJ41, HO_341000, HO_347000, BK287, HI340, HI346, HB⟩ := hcut
                                        cases kq with
                                        | zero => exact absurd HA.out (by simp [gangwaylaw22_EnvExact.j4])
                                        | succ kj41 =>
                                          have H := HA.out
                                          clear HA
                                          simp only [gangwaylaw22_EnvExact.j4] at H
                                          replace H := Option.bind_eq_some_iff.mp H
                                          obtain ⟨t352, A440, H⟩ := H
                                          replace H : ((env_Lay.f kj41 t336 t339 t352 ((rd_T26 l0 x3_1).f1) ((rd_T26 l0 x3_1).f2)).bind fun bt355 => ((gangwaylaw22_num.f bt355.1).bind fun t360 => (if t360 = x13_41 then ((gangwaylaw19_Same.f kj41 bt355.2.1 bt355.2.2 x347000_31 x347001_31).bind fun bt361 => (if bt361.1 = true then ((gangwayref0_EqStrings.f kj41 t352 ((rd_T26 l0 x3_1).f0)).bind fun t366 => (if t366 = true then (gangwaylaw22_EnvExact.l0 kj41 l0 (wrap64 (x3_1 + 1))) else (none))) else (none))) else (none)))) = some r := H
                                          have A44 := Aside0.mk A440
                                          clear A440
                                          replace H := Option.bind_eq_some_iff.mp H
                                          obtain ⟨⟨t355, t356, t359⟩, A450, H⟩ := H
                                          replace H : ((gangwaylaw22_num.f t355).bind fun t360 => (if t360 = x13_41 then ((gangwaylaw19_Same.f kj41 t356 t359 x347000_31 x347001_31).bind fun bt361 => (if bt361.1 = true then ((gangwayref0_EqStrings.f kj41 t352 ((rd_T26 l0 x3_1).f0)).bind fun t366 => (if t366 = true then (gangwaylaw22_EnvExact.l0 kj41 l0 (wrap64 (x3_1 + 1))) else (none))) else (none))) else (none))) = some r := H
                                          have A45 := Aside0.mk A450
                                          clear A450
                                          replace H := Option.bind_eq_some_iff.mp H
                                          obtain ⟨t360, A460, H⟩ := H
                                          replace H : (if t360 = x13_41 then ((gangwaylaw19_Same.f kj41 t356 t359 x347000_31 x347001_31).bind fun bt361 => (if bt361.1 = true then ((gangwayref0_EqStrings.f kj41 t352 ((rd_T26 l0 x3_1).f0)).bind fun t366 => (if t366 = true then (gangwaylaw22_EnvExact.l0 kj41 l0 (wrap64 (x3_1 + 1))) else (none))) else (none))) else (none)) = some r := H
                                          have A46 := Aside0.mk A460
                                          clear A460
                                          by_cases c47 : t360 = x13_41
                                          · rw [if_pos c47] at H
                                            have c47b0 : (t360 == x13_41) = true := beq_iff_eq.mpr c47
                                            have c47b1 : (t360 != x13_41) = false := bne_eq_false_iff_eq.mpr c47
                                            clear c47
                                            replace H := Option.bind_eq_some_iff.mp H
                                            obtain ⟨⟨t361, t362, t365⟩, A480, H⟩ := H
                                            replace H : (if t361 = true then ((gangwayref0_EqStrings.f kj41 t352 ((rd_T26 l0 x3_1).f0)).bind fun t366 => (if t366 = true then (gangwaylaw22_EnvExact.l0 kj41 l0 (wrap64 (x3_1 + 1))) else (none))) else (none)) = some r := H
                                            have A48 := Aside0.mk A480
                                            clear A480
                                            by_cases c49 : t361 = true
                                            · subst c49
                                              have H1 : ((gangwayref0_EqStrings.f kj41 t352 ((rd_T26 l0 x3_1).f0)).bind fun t366 => (if t366 = true then (gangwaylaw22_EnvExact.l0 kj41 l0 (wrap64 (x3_1 + 1))) else (none))) = some r := by rw [if_pos rfl] at H; exact H
                                              clear H
                                              have H := H1
                                              clear H1
                                              replace H := Option.bind_eq_some_iff.mp H
                                              obtain ⟨t366, A500, H⟩ := H
                                              replace H : (if t366 = true then (gangwaylaw22_EnvExact.l0 kj41 l0 (wrap64 (x3_1 + 1))) else (none)) = some r := H
                                              have A50 := Aside0.mk A500
                                              clear A500
                                              by_cases c51 : t366 = true
                                              · subst c51
                                                have H1 : (gangwaylaw22_EnvExact.l0 kj41 l0 (wrap64 (x3_1 + 1))) = some r := by rw [if_pos rfl] at H; exact H
                                                clear H
                                                have H := H1
                                                clear H1
                                                have H' := Aside0.mk H
                                                clear H
                                                have hnb52 := NB287_340.out
                                                have hnc52 := NB340_287.out
                                                have hnb53 := NB287_346.out
                                                have hnc53 := NB346_287.out
                                                have hcz54_0 : wc.cell? ⟨gb287, 0, none⟩ = some (.slice A286_0 ((rd_T26 l0 x3_1).f0).length c286_0) := (blk_cell BK287.out 0).trans rfl
                                                have hcz54_1 : wc.cell? ⟨gb287, 1, none⟩ = some (.int .i64 ((rd_T26 l0 x3_1).f1)) := (blk_cell BK287.out 1).trans rfl
                                                have hcz54_2 : wc.cell? ⟨gb287, 2, none⟩ = some (.int .i64 ((rd_T26 l0 x3_1).f2)) := (blk_cell BK287.out 2).trans rfl
                                                have hfz54_0 := blk_frozen BK287.out 0
                                                have hfz54_1 := blk_frozen BK287.out 1
                                                have hfz54_2 := blk_frozen BK287.out 2
                                                go_wp2_with (first | ((with_reducible refine gate_callee (f := 9) rfl ?_); refine goesL_ (some 93) rfl rfl Try.func9 (by kernel_rfl) rfl #[.slice A286_0 ((rd_T26 l0 x3_1).f0).length c286_0] rfl (by (try simp only [List.map_toArray, List.map_cons, List.map_nil]); first | done | rfl | (simp only [List.length_drop, List.length_take]; rfl)) ?_; (with_reducible refine (gangwayref0_CopyStrings.calls kj41 _ _ ((rd_T26 l0 x3_1).f0) t352 _ ?side1 ?side2 A44.out).mono ?_); (case side1 => repeat (first | exact (Kd.C_below HR286_0.out HB.out) | (with_reducible refine Kd.C_alloc ?_ _) | (with_reducible refine Kd.C_drewN ?_ _) | (with_reducible refine Kd.C_drew ?_))); (case side2 => exact HC286_0.out); rintro e w55 ⟨v353, rfl, ho0, hb⟩; refine ⟨_, rfl, ?_⟩; have n0_ := Aside0.mk (Kd.R_below (by (with_reducible repeat (first | apply Kd.R_alloc | apply Kd.R_drewN | apply Kd.R_drew)); exact HO_341000.out) hb); have n1_ := Aside0.mk (Kd.R_below (by (with_reducible repeat (first | apply Kd.R_alloc | apply Kd.R_drewN | apply Kd.R_drew)); exact HO_347000.out) hb); have n2_ := Aside0.mk (Kd.R_lower ho0 (below_size (by repeat (first | (with_reducible first | exact HB.out | apply below_alloc | apply pw_below_drewN | apply below_drew1 | refine below_set ?_ (IsS72.ge HI340.out) | refine below_set ?_ (IsS59.ge HI346.out) | refine below_set ?_ GE287.out) | exact HB.out)))); have n3_ := Aside0.mk (blk_below (g := gb287) (o := .cells #[.slice A286_0 ((rd_T26 l0 x3_1).f0).length c286_0, .int .i64 ((rd_T26 l0 x3_1).f1), .int .i64 ((rd_T26 l0 x3_1).f2)] 26 (0, 0)) (by (with_reducible repeat (first | refine blk_drewN ?_ _ | refine blk_drew ?_ | refine blk_alloc ?_ _)); exact BK287.out) hb); have n4_ := Aside0.mk (IsS72.below (by repeat (first | (with_reducible first | exact HI340.out | apply IsS72.alloc | apply IsS72.drewN | apply IsS72.drew | apply IsS72.set_0 | apply IsS72.set_1 | refine IsS72.far ?_ NB340_287.out _) | exact HI340.out)) hb); have n5_ := Aside0.mk (IsS59.below (by repeat (first | (with_reducible first | exact HI346.out | apply IsS59.alloc | apply IsS59.drewN | apply IsS59.drew | apply IsS59.set_0 | apply IsS59.set_1 | refine IsS59.far ?_ NB346_287.out _) | exact HI346.out)) hb); have n6_ := Aside0.mk (below_step (by repeat (first | (with_reducible first | exact HB.out | apply below_alloc | apply pw_below_drewN | apply below_drew1 | refine below_set ?_ (IsS72.ge HI340.out) | refine below_set ?_ (IsS59.ge HI346.out) | refine below_set ?_ GE287.out) | exact HB.out)) hb); clear HO_341000; clear HO_347000; clear BK287; clear HI340; clear HI346; clear HB; have HO_341000 := n0_; have HO_347000 := n1_; have HO354 := n2_; have BK287 := n3_; have HI340 := n4_; have HI346 := n5_; have HB := n6_; clear n0_ n1_ n2_ n3_ n4_ n5_ n6_; (try clear hb); (try clear hb2); (try clear hk); (try clear hi); (try clear ho0); have hcz56_0 : w55.cell? ⟨gb287, 0, none⟩ = some (.slice A286_0 ((rd_T26 l0 x3_1).f0).length c286_0) := (blk_cell BK287.out 0).trans rfl; have hcz56_1 : w55.cell? ⟨gb287, 1, none⟩ = some (.int .i64 ((rd_T26 l0 x3_1).f1)) := (blk_cell BK287.out 1).trans rfl; have hcz56_2 : w55.cell? ⟨gb287, 2, none⟩ = some (.int .i64 ((rd_T26 l0 x3_1).f2)) := (blk_cell BK287.out 2).trans rfl; have hfz56_0 := blk_frozen BK287.out 0; have hfz56_1 := blk_frozen BK287.out 1; have hfz56_2 := blk_frozen BK287.out 2; obtain ⟨Ao57, co57, eo57⟩ := Kd.R_slice HO354.out; subst eo57) | ((with_reducible refine gate_callee (f := 17) rfl ?_); refine goesL_ (some 100) rfl rfl Try.func17 (by kernel_rfl) rfl #[.pointer (some ⟨g340, 0, none⟩), .slice Ao57 t352.length co57, .int .i64 ((rd_T26 l0 x3_1).f1), .int .i64 ((rd_T26 l0 x3_1).f2)] rfl (by (try simp only [List.map_toArray, List.map_cons, List.map_nil]); first | done | rfl | (simp only [List.length_drop, List.length_take]; rfl)) ?_; (with_reducible refine (env_Lay.calls kj41 g340 (fun k_ => some k_ = (v337 : Value).ownBlock) v337 t336 t339 _ _ t352 ((rd_T26 l0 x3_1).f1) ((rd_T26 l0 x3_1).f2) t355 t356 t359 w _ ?side1 ?side2 ?side3 ?side4 ?side5 A45.out).mono ?_); (case side1 => repeat (first | (with_reducible first | exact HI340.out | apply IsS72.alloc | apply IsS72.drewN | apply IsS72.drew | apply IsS72.set_0 | apply IsS72.set_1 | refine IsS72.far ?_ NB340_287.out _) | exact HI340.out)); (case side2 => repeat (first | (with_reducible first | exact HB.out | apply below_alloc | apply pw_below_drewN | apply below_drew1 | refine below_set ?_ (IsS72.ge HI340.out) | refine below_set ?_ (IsS59.ge HI346.out) | refine below_set ?_ GE287.out) | exact HB.out)); (case side3 => exact Kd.R_tight rfl HO_341000.out); (case side4 => exact Kd.C_kept_own ((IsS72.apart HI340.out (Kd.R_apart' HO354.out (Kd.R_typed HO_341000.out) (by decide)) (by decide))) (fun k_ hk_ hs_ => Or.elim hs_ (fun hs_ => (hk_.1.2) hs_) (fun e_ => (hk_.2) e_))); (case side5 => exact (Kd.R_reads' HO354.out).2.1); rintro e w58 ⟨v357, rfl, ho0, hi, hb, hkp⟩; refine ⟨_, rfl, ?_⟩; have n0_ := Aside0.mk (Kd.R_mono (ok' := fun k_ => some k_ ≠ (v357 : Value).ownBlock) (Kd.R_keptB ((IsS72.apart HI340.out HO_347000.out (by decide))) hkp (fun k_ hk_ hs_ => Or.elim hs_ (fun hs_ => (hk_.1) hs_) (fun e_ => (hk_.2) e_))) (fun k_ hk_ => fun e_ => Or.elim (ho0.1 k_ e_.symm) (fun hs_ => hk_.2.1 (.inl hs_)) (fun hn_ => Nat.not_le.2 hk_.2.2 hn_))); have n1_ := Aside0.mk (blk_kept (o := .cells #[.slice A286_0 ((rd_T26 l0 x3_1).f0).length c286_0, .int .i64 ((rd_T26 l0 x3_1).f1), .int .i64 ((rd_T26 l0 x3_1).f2)] 26 (0, 0)) (by (with_reducible repeat (first | refine blk_drewN ?_ _ | refine blk_drew ?_ | refine blk_alloc ?_ _)); exact BK287.out) hkp (fun hs_ => Or.elim hs_ (fun hs_ => (fun e_ => (Kd.R_ne HO_341000.out BK287.out (by decide)) e_) hs_) (fun e_ => NB287_340.out e_))); have n2_ := Aside0.mk (hi); have n3_ := Aside0.mk (IsS59.kept (by repeat (first | (with_reducible first | exact HI346.out | apply IsS59.alloc | apply IsS59.drewN | apply IsS59.drew | apply IsS59.set_0 | apply IsS59.set_1 | refine IsS59.far ?_ NB346_287.out _) | exact HI346.out)) hkp (fun hs_ => Or.elim hs_ (fun hs_ => (fun e_ => (IsS59.own_ne HI346.out HO_341000.out (by decide)) e_) hs_) (fun e_ => NB346_340.out e_))); have n4_ := Aside0.mk (Kd.R_mono (ok' := fun k_ => True) (Kd.R_keptB ((IsS72.apart HI340.out (Kd.R_apart' HO354.out (Kd.R_typed HO_341000.out) (by decide)) (by decide))) hkp (fun k_ hk_ hs_ => Or.elim hs_ (fun hs_ => (hk_.1.2) hs_) (fun e_ => (hk_.2) e_))) (fun k_ hk_ => trivial)); have n5_ := Aside0.mk (Kd.R_mono (ok' := fun k_ => some k_ ≠ (u347000 : Value).ownBlock) ho0 (fun k_ hk_ => Or.elim hk_ (fun hs_ => fun e_ => ((((IsS72.apart HI340.out HO_347000.out (by decide))).1 k_ e_.symm).1) hs_) (fun hn_ => (Kd.fresh' (Kd.R_lt (by (with_reducible repeat (first | apply Kd.R_alloc | apply Kd.R_drewN | apply Kd.R_drew)); exact HO_347000.out)) k_ hn_)))); have n6_ := Aside0.mk (hb); clear HO_347000; clear BK287; clear HI340; clear HI346; clear HO354; clear HB; clear HO_341000; have HO_347000 := n0_; have BK287 := n1_; have HI340 := n2_; have HI346 := n3_; have HO354 := n4_; have HO358 := n5_; have HB := n6_; clear n0_ n1_ n2_ n3_ n4_ n5_ n6_; (try clear hb); (try clear hkp); (try clear ho0)) | ((with_reducible refine gate_callee (f := 8) rfl ?_); refine goesL_ (some 101) rfl rfl Try.func8 (by kernel_rfl) rfl #[.int .i64 t355] rfl (by (try simp only [List.map_toArray, List.map_cons, List.map_nil]); first | done | rfl | (simp only [List.length_drop, List.length_take]; rfl)) ?_; (with_reducible refine (gangwaylaw22_num.calls t355 t360 _ A46.out).mono ?_); rintro e w' ⟨rfl, ⟨nd, rfl⟩⟩; refine ⟨_, rfl, ?_⟩; obtain ⟨Ao59, co59, eo59⟩ := Kd.R_slice HO_347000.out; subst eo59) | (go_at_call 18; (with_reducible refine (gangwaylaw19_Same.calls kj41 g340 (fun k_ => some k_ = (v357 : Value).ownBlock) v357 t356 t359 g346 Ao59 co59 x347000_31 x347001_31 true t362 t365 w _ ?side1 ?side2 ?side3 ?side4 ?side5 A48.out).mono ?_); (case side1 => repeat (first | (with_reducible first | exact HI340.out | apply IsS72.alloc | apply IsS72.drewN | apply IsS72.drew | apply IsS72.set_0 | apply IsS72.set_1 | refine IsS72.far ?_ NB340_287.out _) | exact HI340.out)); (case side2 => repeat (first | (with_reducible first | exact HB.out | apply below_alloc | apply pw_below_drewN | apply below_drew1 | refine below_set ?_ (IsS72.ge HI340.out) | refine below_set ?_ (IsS59.ge HI346.out) | refine below_set ?_ GE287.out) | exact HB.out)); (case side3 => exact Kd.R_tight rfl HO358.out); (case side4 => exact fun W_ hk_ => ⟨(IsS59.kept (show IsS59 w _ g346 (.slice Ao59 x347000_31.length co59) x347001_31 from by repeat (first | (with_reducible first | exact HI346.out | apply IsS59.alloc | apply IsS59.drewN | apply IsS59.drew | apply IsS59.set_0 | apply IsS59.set_1 | refine IsS59.far ?_ NB346_287.out _) | exact HI346.out)) hk_ (fun hs_ => Or.elim hs_ (fun hs_ => (fun e_ => (IsS59.own_ne HI346.out HO358.out (by decide)) e_) hs_) (fun e_ => NB346_340.out e_))).1, (Kd.C_kept_own ((IsS72.apart HI340.out HO_347000.out (by decide))) (fun k_ hk_ hs_ => Or.elim hs_ (fun hs_ => (hk_.1) hs_) (fun e_ => (hk_.2) e_))) W_ hk_⟩); (case side5 => exact (Kd.R_reads' HO_347000.out).2.1); rintro e w60 ⟨v363, rfl, ho0, hi, hb, hkp⟩; have n0_ := Aside0.mk (Kd.R_mono (ok' := fun k_ => some k_ ≠ (v363 : Value).ownBlock) (Kd.R_keptB ((IsS72.apart HI340.out HO_347000.out (by decide))) hkp (fun k_ hk_ hs_ => Or.elim hs_ (fun hs_ => (hk_.1) hs_) (fun e_ => (hk_.2) e_))) (fun k_ hk_ => fun e_ => Or.elim (ho0.1 k_ e_.symm) (fun hs_ => hk_.2.1 (.inl hs_)) (fun hn_ => Nat.not_le.2 hk_.2.2 hn_))); have n1_ := Aside0.mk (blk_kept (o := .cells #[.slice A286_0 ((rd_T26 l0 x3_1).f0).length c286_0, .int .i64 ((rd_T26 l0 x3_1).f1), .int .i64 ((rd_T26 l0 x3_1).f2)] 26 (0, 0)) (by (with_reducible repeat (first | refine blk_drewN ?_ _ | refine blk_drew ?_ | refine blk_alloc ?_ _)); exact BK287.out) hkp (fun hs_ => Or.elim hs_ (fun hs_ => (fun e_ => (Kd.R_ne HO358.out BK287.out (by decide)) e_) hs_) (fun e_ => NB287_340.out e_))); have n2_ := Aside0.mk (hi); have n3_ := Aside0.mk (IsS59.kept (by repeat (first | (with_reducible first | exact HI346.out | apply IsS59.alloc | apply IsS59.drewN | apply IsS59.drew | apply IsS59.set_0 | apply IsS59.set_1 | refine IsS59.far ?_ NB346_287.out _) | exact HI346.out)) hkp (fun hs_ => Or.elim hs_ (fun hs_ => (fun e_ => (IsS59.own_ne HI346.out HO358.out (by decide)) e_) hs_) (fun e_ => NB346_340.out e_))); have n4_ := Aside0.mk (Kd.R_mono (ok' := fun k_ => True) (Kd.R_keptB ((IsS72.apart HI340.out (Kd.R_apart' HO354.out (Kd.R_typed HO358.out) (by decide)) (by decide))) hkp (fun k_ hk_ hs_ => Or.elim hs_ (fun hs_ => (hk_.1.2) hs_) (fun e_ => (hk_.2) e_))) (fun k_ hk_ => trivial)); have n5_ := Aside0.mk (Kd.R_mono (ok' := fun k_ => some k_ ≠ (.slice Ao59 x347000_31.length co59 : Value).ownBlock) ho0 (fun k_ hk_ => Or.elim hk_ (fun hs_ => fun e_ => ((((IsS72.apart HI340.out HO_347000.out (by decide))).1 k_ e_.symm).1) hs_) (fun hn_ => (Kd.fresh' (Kd.R_lt (by (with_reducible repeat (first | apply Kd.R_alloc | apply Kd.R_drewN | apply Kd.R_drew)); exact HO_347000.out)) k_ hn_)))); have n6_ := Aside0.mk (hb); clear HO_347000; clear BK287; clear HI340; clear HI346; clear HO354; clear HB; clear HO358; have HO_347000 := n0_; have BK287 := n1_; have HI340 := n2_; have HI346 := n3_; have HO354 := n4_; have HO364 := n5_; have HB := n6_; clear n0_ n1_ n2_ n3_ n4_ n5_ n6_; (try clear hb); (try clear hkp); (try clear ho0); have hcz61_0 : w60.cell? ⟨gb287, 0, none⟩ = some (.slice A286_0 ((rd_T26 l0 x3_1).f0).length c286_0) := (blk_cell BK287.out 0).trans rfl; have hcz61_1 : w60.cell? ⟨gb287, 1, none⟩ = some (.int .i64 ((rd_T26 l0 x3_1).f1)) := (blk_cell BK287.out 1).trans rfl; have hcz61_2 : w60.cell? ⟨gb287, 2, none⟩ = some (.int .i64 ((rd_T26 l0 x3_1).f2)) := (blk_cell BK287.out 2).trans rfl; have hfz61_0 := blk_frozen BK287.out 0; have hfz61_1 := blk_frozen BK287.out 1; have hfz61_2 := blk_frozen BK287.out 2) | (go_at_call 19; (with_reducible refine (gangwayref0_EqStrings.calls kj41 _ _ t352 _ _ ((rd_T26 l0 x3_1).f0) true _ ?side1 ?side2 ?side3 ?side4 A50.out).mono ?_); (case side1 => repeat (first | exact (Kd.R_reads' HO354.out).2.2 | (with_reducible refine Kd.C_alloc ?_ _) | (with_reducible refine Kd.C_drewN ?_ _) | (with_reducible refine Kd.C_drew ?_))); (case side2 => exact (Kd.R_reads' HO354.out).2.1); (case side3 => repeat (first | exact (Kd.C_below HR286_0.out HB.out) | (with_reducible refine Kd.C_alloc ?_ _) | (with_reducible refine Kd.C_drewN ?_ _) | (with_reducible refine Kd.C_drew ?_))); (case side4 => exact HC286_0.out); rintro e w' ⟨rfl, ⟨nd, rfl⟩⟩))
                                                go_roundg kj41
                                                case measure => have := HK1.out; have := HJ1.out; have := HJ12.out; have := HJ31.out; have := HJ41.out; omega
                                                case rel => exact ⟨(wrap64 (x3_1 + 1)), (by first | rfl | (simp; done) | (simp [*]; done)), H', ⟨by have := HK1.out; have := HJ1.out; have := HJ12.out; have := HJ31.out; have := HJ41.out; omega⟩, ⟨by repeat (first | (with_reducible first | exact HB.out | apply below_alloc | apply pw_below_drewN | apply below_drew1 | refine below_set ?_ (IsS72.ge HI340.out) | refine below_set ?_ (IsS59.ge HI346.out) | refine below_set ?_ GE287.out) | exact HB.out)⟩⟩
                                              · replace c51 := Bool.eq_false_iff.mpr c51
                                                subst c51
                                                have H1 : (none) = some r := by rw [if_neg (show ¬ (false = true) by decide)] at H; exact H
                                                clear H
                                                have H := H1
                                                clear H1
                                                exact absurd H (by simp)
                                            · replace c49 := Bool.eq_false_iff.mpr c49
                                              subst c49
                                              have H1 : (none) = some r := by rw [if_neg (show ¬ (false = true) by decide)] at H; exact H
                                              clear H
                                              have H := H1
                                              clear H1
                                              exact absurd H (by simp)
                                          · rw [if_neg c47] at H
                                            exact absurd H (by simp)
                                · replace c31 := Bool.eq_false_iff.mpr c31
                                  subst c31
                                  have H1 : (none) = some r := by rw [if_neg (show ¬ (false = true) by decide)] at H; exact H
                                  clear H
                                  have H := H1
                                  clear H1
                                  exact absurd H (by simp)
                              · replace c30 := Bool.eq_false_iff.mpr c30
                                subst c30
                                have H1 : (none) = some r := by rw [if_neg (show ¬ (false = true) by decide)] at H; exact H
                                clear H
                                have H := H1
                                clear H1
                                exact absurd H (by simp)
                            · rw [if_neg c28] at H
                              exact absurd H (by simp)
                          · rw [if_neg c27] at H
                            exact absurd H (by simp)
                        · rw [if_neg c26] at H
                          exact absurd H (by simp)
                      · rw [if_neg c24] at H
                        exact absurd H (by simp)
              · rw [if_neg c6] at H
                exact absurd H (by simp)
            · rw [if_neg c5] at H
              exact absurd H (by simp)
          · replace c4 := Bool.eq_false_iff.mpr c4
            subst c4
            have H1 : ((env_Lay_nil.f).bind fun t283 => ((gangwaylaw22_num.f t283).bind fun t284 => (if t284 = 100 then ((gangwaylaw22_wakes.f kj1).bind fun t285 => (some t285)) else (none)))) = some r := by rw [if_neg (show ¬ (false = true) by decide)] at H; exact H
            clear H
            have H := H1
            clear H1
            replace H := Option.bind_eq_some_iff.mp H
            obtain ⟨t283, A620, H⟩ := H
            replace H : ((gangwaylaw22_num.f t283).bind fun t284 => (if t284 = 100 then ((gangwaylaw22_wakes.f kj1).bind fun t285 => (some t285)) else (none))) = some r := H
            have A62 := Aside0.mk A620
            clear A620
            replace H := Option.bind_eq_some_iff.mp H
            obtain ⟨t284, A630, H⟩ := H
            replace H : (if t284 = 100 then ((gangwaylaw22_wakes.f kj1).bind fun t285 => (some t285)) else (none)) = some r := H
            have A63 := Aside0.mk A630
            clear A630
            by_cases c64 : t284 = 100
            · rw [if_pos c64] at H
              have c64b0 : (t284 == 100) = true := beq_iff_eq.mpr c64
              have c64b1 : (t284 != 100) = false := bne_eq_false_iff_eq.mpr c64
              clear c64
              replace H := Option.bind_eq_some_iff.mp H
              obtain ⟨t285, A650, H⟩ := H
              replace H : (some t285) = some r := H
              have A65 := Aside0.mk A650
              clear A650
              obtain rfl := Option.some.inj H
              go_wp2_with (first | (go_at_call 17; (with_reducible refine (env_Lay_nil.calls  t283 _ A62.out).mono ?_); rintro e w' ⟨rfl, ⟨nd, rfl⟩⟩) | ((with_reducible refine gate_callee (f := 8) rfl ?_); refine goesL_ (some 118) rfl rfl Try.func8 (by kernel_rfl) rfl #[.int .i64 t283] rfl (by (try simp only [List.map_toArray, List.map_cons, List.map_nil]); first | done | rfl | (simp only [List.length_drop, List.length_take]; rfl)) ?_; (with_reducible refine (gangwaylaw22_num.calls t283 t284 _ A63.out).mono ?_); rintro e w' ⟨rfl, ⟨nd, rfl⟩⟩; refine ⟨_, rfl, ?_⟩) | (go_at_call 11; (with_reducible refine (gangwaylaw22_wakes.calls kj1  t285 _ A65.out).mono ?_); rintro e w66 ⟨rfl, hb⟩; have n0_ := Aside0.mk (below_step (by repeat (first | (with_reducible first | exact HB.out | apply below_alloc | apply pw_below_drewN | apply below_drew1) | exact HB.out)) hb); clear HB; have HB := n0_; clear n0_; (try clear hb); (try clear hb2); (try clear hk); (try clear hi)))
              go_ret
              exact ⟨by first | rfl | (simp [errW_none, errW_some] <;> rfl) | (simp [*, errW_none, errW_some] <;> rfl), by repeat (first | (with_reducible first | exact HB.out | apply below_alloc | apply pw_below_drewN | apply below_drew1) | exact HB.out)⟩
            · rw [if_neg c64] at H
              exact absurd H (by simp)

/-- THE ONE PURE STATEMENT of gangwaylaw22_EnvExact: yours. -/
def gangwaylaw22_EnvExact.Pure : Prop := ∀ (x0 : List (S26)), (x0.length * 40 ≤ 140737488351232 ∧ ∀ y367 ∈ x0, okT26 y367) → ∃ k, gangwaylaw22_EnvExact.f k x0 = some true
theorem gangwaylaw22_EnvExact.walk (P : gangwaylaw22_EnvExact.Pure) (w : World) (x0 : List (S26)) (A0 : Option Addr) (c0 : Nat) (hr0 : Kd.C k26 w A0 x0.length x0) (hc0 : x0.length ≤ c0) (hok0 : (x0.length * 40 ≤ 140737488351232 ∧ ∀ y368 ∈ x0, okT26 y368)) :
    Calls Try.prog 4 #[.slice A0 x0.length c0] w fun e w' => e = .returned (.bool true) ∧ Below w.heap.size w w' := by
  obtain ⟨k, h⟩ := P x0 hok0
  refine (gangwaylaw22_EnvExact.calls k _ _ x0 true w hr0 hc0 h).mono ?_
  rintro e w' ⟨rfl, hd⟩
  exact ⟨rfl, hd⟩

end Go.Proofs.Ytpaodfhhnhbacaa.PAll
