/- Printed by a copy of the printer that was turned for this claim: functions as plain Lean functions, with proofs that their calls come to these; or words that such proofs use. -/
import Derived.Test.YthhmnecnoojcpaaPAllx0
import Derived.Test.YthhmnecnoojcpaaPAllx1
import Derived.Test.YthhmnecnoojcpaaPAllx2
import Derived.Test.YthhmnecnoojcpaaPAllx3
import Derived.Test.YthhmnecnoojcpaaPAllx5
import Derived.Test.YthhmnecnoojcpaaPAllx7
import Derived.Test.YthhmnecnoojcpaaPAllx8
namespace Go.Proofs.Ythhmnecnoojcpaa.PAll
open Go.RowKit Go.Proofs.YthhmnecnoojcpaaW.PrintWords Go.Proofs.YthhmnecnoojcpaaW.PrintLast Go.Proofs.YthhmnecnoojcpaaW.PrintMore
attribute [local go_sem] max2_int min2_int max_two min_two max_three min_three max_four min_four   -- for this text's walks alone
set_option linter.unusedVariables false
set_option linter.unusedSimpArgs false

attribute [local go_sem high] eqA45
/-! ### gangwaylaw20_StatSubs: function 5 -/
mutual
def gangwaylaw20_StatSubs.j7 : Nat → Option (Bool)
  | 0 => none
  | k + 1 => (gangwaylaw20_wakes.f k).bind fun t281 => (some t281)
def gangwaylaw20_StatSubs.l0 : Nat → List (S35) → Int → Option (Bool)
  | 0, _, _ => none
  | k + 1, x0, x3 => if x3 < (x0.length : Int) then (gangwaylaw20_StatSubs.j1 k x0 x3 (decide (x3 < 20))) else (gangwaylaw20_StatSubs.j1 k x0 x3 false)
def gangwaylaw20_StatSubs.j1 : Nat → List (S35) → Int → Bool → Option (Bool)
  | 0, _, _, _ => none
  | k + 1, x0, x3, x16 => if x16 = true then (gangwaylaw20_StatSubs.j2 k x0 x3) else (gangwaylaw20_StatSubs.j7 k)
def gangwaylaw20_StatSubs.j2 : Nat → List (S35) → Int → Option (Bool)
  | 0, _, _ => none
  | k + 1, x0, x3 => if 0 ≤ x3 then (if x3 < (x0.length : Int) then ((gangwaylaw20_heavy.f ((rd_T35 x0 x3).f0.f0) ((rd_T35 x0 x3).f0.f1) ((rd_T35 x0 x3).f0.f2) ((rd_T35 x0 x3).f0.f3) ((rd_T35 x0 x3).f0.f4) ((rd_T35 x0 x3).f0.f5) ((rd_T35 x0 x3).f0.f6) ((rd_T35 x0 x3).f1.f0) ((rd_T35 x0 x3).f1.f1) ((rd_T35 x0 x3).f1.f2) ((rd_T35 x0 x3).f1.f3) ((rd_T35 x0 x3).f1.f4) ((rd_T35 x0 x3).f1.f5) ((rd_T35 x0 x3).f2) ((rd_T35 x0 x3).f3) ((rd_T35 x0 x3).f4) ((rd_T35 x0 x3).f5) ((rd_T35 x0 x3).f6) ((rd_T35 x0 x3).f7.f0) ((rd_T35 x0 x3).f7.f1) ((rd_T35 x0 x3).f7.f2) ((rd_T35 x0 x3).f7.f3) ((rd_T35 x0 x3).f8)).bind fun t264 => (if t264 = true then (some true) else (gangwaylaw20_StatSubs.j3 k x0 x3 ((rd_T35 x0 x3).f0.f0) ((rd_T35 x0 x3).f0.f1) ((rd_T35 x0 x3).f0.f2) ((rd_T35 x0 x3).f0.f3) ((rd_T35 x0 x3).f0.f4) ((rd_T35 x0 x3).f0.f5) ((rd_T35 x0 x3).f0.f6) ((rd_T35 x0 x3).f1.f0) ((rd_T35 x0 x3).f1.f1) ((rd_T35 x0 x3).f1.f2) ((rd_T35 x0 x3).f1.f3) ((rd_T35 x0 x3).f1.f4) ((rd_T35 x0 x3).f1.f5) ((rd_T35 x0 x3).f2) ((rd_T35 x0 x3).f3) ((rd_T35 x0 x3).f4) ((rd_T35 x0 x3).f5) ((rd_T35 x0 x3).f6) ((rd_T35 x0 x3).f7.f0) ((rd_T35 x0 x3).f7.f1) ((rd_T35 x0 x3).f7.f2) ((rd_T35 x0 x3).f7.f3) ((rd_T35 x0 x3).f8)))) else (none)) else (none)
def gangwaylaw20_StatSubs.j3 : Nat → List (S35) → Int → Int → Int → Int → Int → Int → Int → ByteArray → Int → List Int → List (S93) → ByteArray → Int → Int → Int → ByteArray → Int → Int → Int → Int → Int → Int → Int → List Int → Option (Bool)
  | 0, _, _, _, _, _, _, _, _, _, _, _, _, _, _, _, _, _, _, _, _, _, _, _, _, _ => none
  | k + 1, x0, x3, x264000, x264001, x264002, x264003, x264004, x264005, x264006, x264007, x264008, x264009, x264010, x264011, x264012, x264013, x264014, x264015, x264016, x264017, x264018, x264019, x264020, x264021, x264022 => (stat_Subscription.f k x264022).bind fun bt265 => (if (x264022.length : Int) = 48 then (gangwaylaw20_StatSubs.j5 k x0 x3 bt265.2.2.2.2.2 x264000 x264001 x264002 x264003 x264004 x264005 x264006 x264007 x264008 x264009 x264010 x264011 x264012 x264013 x264014 x264015 x264016 x264017 x264018 x264019 x264020 x264021 x264022 bt265.1 bt265.2.1 bt265.2.2.1 bt265.2.2.2.1 bt265.2.2.2.2.1) else ((gangwaylaw20_num.f bt265.2.2.2.2.2).bind fun t272 => (if t272 = 100 then (gangwaylaw20_StatSubs.j4 k x0 x3 (!(bt265.1 == 0) || (!(bt265.2.1 == 0) || (!(bt265.2.2.1 == 0) || (!(bt265.2.2.2.1 == 0) || (bt265.2.2.2.2.1)))))) else (gangwaylaw20_StatSubs.j4 k x0 x3 true))))
def gangwaylaw20_StatSubs.j5 : Nat → List (S35) → Int → Int → Int → Int → Int → Int → Int → Int → ByteArray → Int → List Int → List (S93) → ByteArray → Int → Int → Int → ByteArray → Int → Int → Int → Int → Int → Int → Int → List Int → Int → Int → Int → Int → Bool → Option (Bool)
  | 0, _, _, _, _, _, _, _, _, _, _, _, _, _, _, _, _, _, _, _, _, _, _, _, _, _, _, _, _, _, _, _ => none
  | k + 1, x0, x3, x6, x264000, x264001, x264002, x264003, x264004, x264005, x264006, x264007, x264008, x264009, x264010, x264011, x264012, x264013, x264014, x264015, x264016, x264017, x264018, x264019, x264020, x264021, x264022, x272000, x272001, x272002, x272003, x272004 => (gangwayref20_Subscription.f k x264022).bind fun bt273 => ((gangwaylaw20_num.f x6).bind fun t280 => (if t280 = bt273.2.2.2.2.2 then (gangwaylaw20_StatSubs.j6 k x0 x3 (!(x272000 == bt273.1) || (!(x272001 == bt273.2.1) || (!(x272002 == bt273.2.2.1) || (!(x272003 == bt273.2.2.2.1) || (!(x272004 == bt273.2.2.2.2.1))))))) else (gangwaylaw20_StatSubs.j6 k x0 x3 true)))
def gangwaylaw20_StatSubs.j6 : Nat → List (S35) → Int → Bool → Option (Bool)
  | 0, _, _, _ => none
  | k + 1, x0, x3, x57 => if x57 = true then (some false) else (gangwaylaw20_StatSubs.l0 k x0 (wrap64 (x3 + 1)))
def gangwaylaw20_StatSubs.j4 : Nat → List (S35) → Int → Bool → Option (Bool)
  | 0, _, _, _ => none
  | k + 1, x0, x3, x42 => if x42 = true then (some false) else (gangwaylaw20_StatSubs.l0 k x0 (wrap64 (x3 + 1)))
end
def gangwaylaw20_StatSubs.f (k : Nat) (l0 : List (S35)) : Option (Bool) := gangwaylaw20_StatSubs.l0 k l0 0
theorem gangwaylaw20_StatSubs.mono_l : ∀ k, (LeO (gangwaylaw20_StatSubs.j7 k ) (gangwaylaw20_StatSubs.j7 (k + 1) )) ∧ (∀ y0 y1, LeO (gangwaylaw20_StatSubs.l0 k y0 y1) (gangwaylaw20_StatSubs.l0 (k + 1) y0 y1)) ∧ (∀ y0 y1 y2, LeO (gangwaylaw20_StatSubs.j1 k y0 y1 y2) (gangwaylaw20_StatSubs.j1 (k + 1) y0 y1 y2)) ∧ (∀ y0 y1, LeO (gangwaylaw20_StatSubs.j2 k y0 y1) (gangwaylaw20_StatSubs.j2 (k + 1) y0 y1)) ∧ (∀ y0 y1 y2 y3 y4 y5 y6 y7 y8 y9 y10 y11 y12 y13 y14 y15 y16 y17 y18 y19 y20 y21 y22 y23 y24, LeO (gangwaylaw20_StatSubs.j3 k y0 y1 y2 y3 y4 y5 y6 y7 y8 y9 y10 y11 y12 y13 y14 y15 y16 y17 y18 y19 y20 y21 y22 y23 y24) (gangwaylaw20_StatSubs.j3 (k + 1) y0 y1 y2 y3 y4 y5 y6 y7 y8 y9 y10 y11 y12 y13 y14 y15 y16 y17 y18 y19 y20 y21 y22 y23 y24)) ∧ (∀ y0 y1 y2 y3 y4 y5 y6 y7 y8 y9 y10 y11 y12 y13 y14 y15 y16 y17 y18 y19 y20 y21 y22 y23 y24 y25 y26 y27 y28 y29 y30, LeO (gangwaylaw20_StatSubs.j5 k y0 y1 y2 y3 y4 y5 y6 y7 y8 y9 y10 y11 y12 y13 y14 y15 y16 y17 y18 y19 y20 y21 y22 y23 y24 y25 y26 y27 y28 y29 y30) (gangwaylaw20_StatSubs.j5 (k + 1) y0 y1 y2 y3 y4 y5 y6 y7 y8 y9 y10 y11 y12 y13 y14 y15 y16 y17 y18 y19 y20 y21 y22 y23 y24 y25 y26 y27 y28 y29 y30)) ∧ (∀ y0 y1 y2, LeO (gangwaylaw20_StatSubs.j6 k y0 y1 y2) (gangwaylaw20_StatSubs.j6 (k + 1) y0 y1 y2)) ∧ (∀ y0 y1 y2, LeO (gangwaylaw20_StatSubs.j4 k y0 y1 y2) (gangwaylaw20_StatSubs.j4 (k + 1) y0 y1 y2))
  | 0 => ⟨fun r h => by simp [gangwaylaw20_StatSubs.j7] at h, fun _ _ r h => by simp [gangwaylaw20_StatSubs.l0] at h, fun _ _ _ r h => by simp [gangwaylaw20_StatSubs.j1] at h, fun _ _ r h => by simp [gangwaylaw20_StatSubs.j2] at h, fun _ _ _ _ _ _ _ _ _ _ _ _ _ _ _ _ _ _ _ _ _ _ _ _ _ r h => by simp [gangwaylaw20_StatSubs.j3] at h, fun _ _ _ _ _ _ _ _ _ _ _ _ _ _ _ _ _ _ _ _ _ _ _ _ _ _ _ _ _ _ _ r h => by simp [gangwaylaw20_StatSubs.j5] at h, fun _ _ _ r h => by simp [gangwaylaw20_StatSubs.j6] at h, fun _ _ _ r h => by simp [gangwaylaw20_StatSubs.j4] at h⟩
  | k + 1 => by
    obtain ⟨ih0, ih1, ih2, ih3, ih4, ih5, ih6, ih7⟩ := gangwaylaw20_StatSubs.mono_l k
    refine ⟨?_, ?_, ?_, ?_, ?_, ?_, ?_, ?_⟩
    · skip
      unfold gangwaylaw20_StatSubs.j7
      repeat' first
      | (with_reducible exact ih0)
      | (with_reducible exact ih1 _ _)
      | (with_reducible exact ih2 _ _ _)
      | (with_reducible exact ih3 _ _)
      | (with_reducible exact ih4 _ _ _ _ _ _ _ _ _ _ _ _ _ _ _ _ _ _ _ _ _ _ _ _ _)
      | (with_reducible exact ih5 _ _ _ _ _ _ _ _ _ _ _ _ _ _ _ _ _ _ _ _ _ _ _ _ _ _ _ _ _ _ _)
      | (with_reducible exact ih6 _ _ _)
      | (with_reducible exact ih7 _ _ _)
      | (with_reducible exact gangwaylaw20_wakes.mono _)
      | (with_reducible exact gangwayref20_Subscription.mono _ _)
      | (with_reducible exact stat_Subscription.mono _ _)
      | (with_reducible exact LeO.refl _)
      | (with_reducible exact LeO.none _)
      | (with_reducible refine LeO.ite ?_ ?_)
      | (with_reducible refine LeO.bind ?_ (fun _ => ?_))
      | exact ih0
      | exact ih1 _ _
      | exact ih2 _ _ _
      | exact ih3 _ _
      | exact ih4 _ _ _ _ _ _ _ _ _ _ _ _ _ _ _ _ _ _ _ _ _ _ _ _ _
      | exact ih5 _ _ _ _ _ _ _ _ _ _ _ _ _ _ _ _ _ _ _ _ _ _ _ _ _ _ _ _ _ _ _
      | exact ih6 _ _ _
      | exact ih7 _ _ _
      | exact gangwaylaw20_wakes.mono _
      | exact gangwayref20_Subscription.mono _ _
      | exact stat_Subscription.mono _ _
      | exact LeO.none _
      | refine LeO.ite ?_ ?_
      | refine LeO.bind ?_ (fun _ => ?_)
    · intro y0 y1
      unfold gangwaylaw20_StatSubs.l0
      repeat' first
      | (with_reducible exact ih0)
      | (with_reducible exact ih1 _ _)
      | (with_reducible exact ih2 _ _ _)
      | (with_reducible exact ih3 _ _)
      | (with_reducible exact ih4 _ _ _ _ _ _ _ _ _ _ _ _ _ _ _ _ _ _ _ _ _ _ _ _ _)
      | (with_reducible exact ih5 _ _ _ _ _ _ _ _ _ _ _ _ _ _ _ _ _ _ _ _ _ _ _ _ _ _ _ _ _ _ _)
      | (with_reducible exact ih6 _ _ _)
      | (with_reducible exact ih7 _ _ _)
      | (with_reducible exact gangwaylaw20_wakes.mono _)
      | (with_reducible exact gangwayref20_Subscription.mono _ _)
      | (with_reducible exact stat_Subscription.mono _ _)
      | (with_reducible exact LeO.refl _)
      | (with_reducible exact LeO.none _)
      | (with_reducible refine LeO.ite ?_ ?_)
      | (with_reducible refine LeO.bind ?_ (fun _ => ?_))
      | exact ih0
      | exact ih1 _ _
      | exact ih2 _ _ _
      | exact ih3 _ _
      | exact ih4 _ _ _ _ _ _ _ _ _ _ _ _ _ _ _ _ _ _ _ _ _ _ _ _ _
      | exact ih5 _ _ _ _ _ _ _ _ _ _ _ _ _ _ _ _ _ _ _ _ _ _ _ _ _ _ _ _ _ _ _
      | exact ih6 _ _ _
      | exact ih7 _ _ _
      | exact gangwaylaw20_wakes.mono _
      | exact gangwayref20_Subscription.mono _ _
      | exact stat_Subscription.mono _ _
      | exact LeO.none _
      | refine LeO.ite ?_ ?_
      | refine LeO.bind ?_ (fun _ => ?_)
    · intro y0 y1 y2
      unfold gangwaylaw20_StatSubs.j1
      repeat' first
      | (with_reducible exact ih0)
      | (with_reducible exact ih1 _ _)
      | (with_reducible exact ih2 _ _ _)
      | (with_reducible exact ih3 _ _)
      | (with_reducible exact ih4 _ _ _ _ _ _ _ _ _ _ _ _ _ _ _ _ _ _ _ _ _ _ _ _ _)
      | (with_reducible exact ih5 _ _ _ _ _ _ _ _ _ _ _ _ _ _ _ _ _ _ _ _ _ _ _ _ _ _ _ _ _ _ _)
      | (with_reducible exact ih6 _ _ _)
      | (with_reducible exact ih7 _ _ _)
      | (with_reducible exact gangwaylaw20_wakes.mono _)
      | (with_reducible exact gangwayref20_Subscription.mono _ _)
      | (with_reducible exact stat_Subscription.mono _ _)
      | (with_reducible exact LeO.refl _)
      | (with_reducible exact LeO.none _)
      | (with_reducible refine LeO.ite ?_ ?_)
      | (with_reducible refine LeO.bind ?_ (fun _ => ?_))
      | exact ih0
      | exact ih1 _ _
      | exact ih2 _ _ _
      | exact ih3 _ _
      | exact ih4 _ _ _ _ _ _ _ _ _ _ _ _ _ _ _ _ _ _ _ _ _ _ _ _ _
      | exact ih5 _ _ _ _ _ _ _ _ _ _ _ _ _ _ _ _ _ _ _ _ _ _ _ _ _ _ _ _ _ _ _
      | exact ih6 _ _ _
      | exact ih7 _ _ _
      | exact gangwaylaw20_wakes.mono _
      | exact gangwayref20_Subscription.mono _ _
      | exact stat_Subscription.mono _ _
      | exact LeO.none _
      | refine LeO.ite ?_ ?_
      | refine LeO.bind ?_ (fun _ => ?_)
    · intro y0 y1
      unfold gangwaylaw20_StatSubs.j2
      repeat' first
      | (with_reducible exact ih0)
      | (with_reducible exact ih1 _ _)
      | (with_reducible exact ih2 _ _ _)
      | (with_reducible exact ih3 _ _)
      | (with_reducible exact ih4 _ _ _ _ _ _ _ _ _ _ _ _ _ _ _ _ _ _ _ _ _ _ _ _ _)
      | (with_reducible exact ih5 _ _ _ _ _ _ _ _ _ _ _ _ _ _ _ _ _ _ _ _ _ _ _ _ _ _ _ _ _ _ _)
      | (with_reducible exact ih6 _ _ _)
      | (with_reducible exact ih7 _ _ _)
      | (with_reducible exact gangwaylaw20_wakes.mono _)
      | (with_reducible exact gangwayref20_Subscription.mono _ _)
      | (with_reducible exact stat_Subscription.mono _ _)
      | (with_reducible exact LeO.refl _)
      | (with_reducible exact LeO.none _)
      | (with_reducible refine LeO.ite ?_ ?_)
      | (with_reducible refine LeO.bind ?_ (fun _ => ?_))
      | exact ih0
      | exact ih1 _ _
      | exact ih2 _ _ _
      | exact ih3 _ _
      | exact ih4 _ _ _ _ _ _ _ _ _ _ _ _ _ _ _ _ _ _ _ _ _ _ _ _ _
      | exact ih5 _ _ _ _ _ _ _ _ _ _ _ _ _ _ _ _ _ _ _ _ _ _ _ _ _ _ _ _ _ _ _
      | exact ih6 _ _ _
      | exact ih7 _ _ _
      | exact gangwaylaw20_wakes.mono _
      | exact gangwayref20_Subscription.mono _ _
      | exact stat_Subscription.mono _ _
      | exact LeO.none _
      | refine LeO.ite ?_ ?_
      | refine LeO.bind ?_ (fun _ => ?_)
    · intro y0 y1 y2 y3 y4 y5 y6 y7 y8 y9 y10 y11 y12 y13 y14 y15 y16 y17 y18 y19 y20 y21 y22 y23 y24
      unfold gangwaylaw20_StatSubs.j3
      repeat' first
      | (with_reducible exact ih0)
      | (with_reducible exact ih1 _ _)
      | (with_reducible exact ih2 _ _ _)
      | (with_reducible exact ih3 _ _)
      | (with_reducible exact ih4 _ _ _ _ _ _ _ _ _ _ _ _ _ _ _ _ _ _ _ _ _ _ _ _ _)
      | (with_reducible exact ih5 _ _ _ _ _ _ _ _ _ _ _ _ _ _ _ _ _ _ _ _ _ _ _ _ _ _ _ _ _ _ _)
      | (with_reducible exact ih6 _ _ _)
      | (with_reducible exact ih7 _ _ _)
      | (with_reducible exact gangwaylaw20_wakes.mono _)
      | (with_reducible exact gangwayref20_Subscription.mono _ _)
      | (with_reducible exact stat_Subscription.mono _ _)
      | (with_reducible exact LeO.refl _)
      | (with_reducible exact LeO.none _)
      | (with_reducible refine LeO.ite ?_ ?_)
      | (with_reducible refine LeO.bind ?_ (fun _ => ?_))
      | exact ih0
      | exact ih1 _ _
      | exact ih2 _ _ _
      | exact ih3 _ _
      | exact ih4 _ _ _ _ _ _ _ _ _ _ _ _ _ _ _ _ _ _ _ _ _ _ _ _ _
      | exact ih5 _ _ _ _ _ _ _ _ _ _ _ _ _ _ _ _ _ _ _ _ _ _ _ _ _ _ _ _ _ _ _
      | exact ih6 _ _ _
      | exact ih7 _ _ _
      | exact gangwaylaw20_wakes.mono _
      | exact gangwayref20_Subscription.mono _ _
      | exact stat_Subscription.mono _ _
      | exact LeO.none _
      | refine LeO.ite ?_ ?_
      | refine LeO.bind ?_ (fun _ => ?_)
    · intro y0 y1 y2 y3 y4 y5 y6 y7 y8 y9 y10 y11 y12 y13 y14 y15 y16 y17 y18 y19 y20 y21 y22 y23 y24 y25 y26 y27 y28 y29 y30
      unfold gangwaylaw20_StatSubs.j5
      repeat' first
      | (with_reducible exact ih0)
      | (with_reducible exact ih1 _ _)
      | (with_reducible exact ih2 _ _ _)
      | (with_reducible exact ih3 _ _)
      | (with_reducible exact ih4 _ _ _ _ _ _ _ _ _ _ _ _ _ _ _ _ _ _ _ _ _ _ _ _ _)
      | (with_reducible exact ih5 _ _ _ _ _ _ _ _ _ _ _ _ _ _ _ _ _ _ _ _ _ _ _ _ _ _ _ _ _ _ _)
      | (with_reducible exact ih6 _ _ _)
      | (with_reducible exact ih7 _ _ _)
      | (with_reducible exact gangwaylaw20_wakes.mono _)
      | (with_reducible exact gangwayref20_Subscription.mono _ _)
      | (with_reducible exact stat_Subscription.mono _ _)
      | (with_reducible exact LeO.refl _)
      | (with_reducible exact LeO.none _)
      | (with_reducible refine LeO.ite ?_ ?_)
      | (with_reducible refine LeO.bind ?_ (fun _ => ?_))
      | exact ih0
      | exact ih1 _ _
      | exact ih2 _ _ _
      | exact ih3 _ _
      | exact ih4 _ _ _ _ _ _ _ _ _ _ _ _ _ _ _ _ _ _ _ _ _ _ _ _ _
      | exact ih5 _ _ _ _ _ _ _ _ _ _ _ _ _ _ _ _ _ _ _ _ _ _ _ _ _ _ _ _ _ _ _
      | exact ih6 _ _ _
      | exact ih7 _ _ _
      | exact gangwaylaw20_wakes.mono _
      | exact gangwayref20_Subscription.mono _ _
      | exact stat_Subscription.mono _ _
      | exact LeO.none _
      | refine LeO.ite ?_ ?_
      | refine LeO.bind ?_ (fun _ => ?_)
    · intro y0 y1 y2
      unfold gangwaylaw20_StatSubs.j6
      repeat' first
      | (with_reducible exact ih0)
      | (with_reducible exact ih1 _ _)
      | (with_reducible exact ih2 _ _ _)
      | (with_reducible exact ih3 _ _)
      | (with_reducible exact ih4 _ _ _ _ _ _ _ _ _ _ _ _ _ _ _ _ _ _ _ _ _ _ _ _ _)
      | (with_reducible exact ih5 _ _ _ _ _ _ _ _ _ _ _ _ _ _ _ _ _ _ _ _ _ _ _ _ _ _ _ _ _ _ _)
      | (with_reducible exact ih6 _ _ _)
      | (with_reducible exact ih7 _ _ _)
      | (with_reducible exact gangwaylaw20_wakes.mono _)
      | (with_reducible exact gangwayref20_Subscription.mono _ _)
      | (with_reducible exact stat_Subscription.mono _ _)
      | (with_reducible exact LeO.refl _)
      | (with_reducible exact LeO.none _)
      | (with_reducible refine LeO.ite ?_ ?_)
      | (with_reducible refine LeO.bind ?_ (fun _ => ?_))
      | exact ih0
      | exact ih1 _ _
      | exact ih2 _ _ _
      | exact ih3 _ _
      | exact ih4 _ _ _ _ _ _ _ _ _ _ _ _ _ _ _ _ _ _ _ _ _ _ _ _ _
      | exact ih5 _ _ _ _ _ _ _ _ _ _ _ _ _ _ _ _ _ _ _ _ _ _ _ _ _ _ _ _ _ _ _
      | exact ih6 _ _ _
      | exact ih7 _ _ _
      | exact gangwaylaw20_wakes.mono _
      | exact gangwayref20_Subscription.mono _ _
      | exact stat_Subscription.mono _ _
      | exact LeO.none _
      | refine LeO.ite ?_ ?_
      | refine LeO.bind ?_ (fun _ => ?_)
    · intro y0 y1 y2
      unfold gangwaylaw20_StatSubs.j4
      repeat' first
      | (with_reducible exact ih0)
      | (with_reducible exact ih1 _ _)
      | (with_reducible exact ih2 _ _ _)
      | (with_reducible exact ih3 _ _)
      | (with_reducible exact ih4 _ _ _ _ _ _ _ _ _ _ _ _ _ _ _ _ _ _ _ _ _ _ _ _ _)
      | (with_reducible exact ih5 _ _ _ _ _ _ _ _ _ _ _ _ _ _ _ _ _ _ _ _ _ _ _ _ _ _ _ _ _ _ _)
      | (with_reducible exact ih6 _ _ _)
      | (with_reducible exact ih7 _ _ _)
      | (with_reducible exact gangwaylaw20_wakes.mono _)
      | (with_reducible exact gangwayref20_Subscription.mono _ _)
      | (with_reducible exact stat_Subscription.mono _ _)
      | (with_reducible exact LeO.refl _)
      | (with_reducible exact LeO.none _)
      | (with_reducible refine LeO.ite ?_ ?_)
      | (with_reducible refine LeO.bind ?_ (fun _ => ?_))
      | exact ih0
      | exact ih1 _ _
      | exact ih2 _ _ _
      | exact ih3 _ _
      | exact ih4 _ _ _ _ _ _ _ _ _ _ _ _ _ _ _ _ _ _ _ _ _ _ _ _ _
      | exact ih5 _ _ _ _ _ _ _ _ _ _ _ _ _ _ _ _ _ _ _ _ _ _ _ _ _ _ _ _ _ _ _
      | exact ih6 _ _ _
      | exact ih7 _ _ _
      | exact gangwaylaw20_wakes.mono _
      | exact gangwayref20_Subscription.mono _ _
      | exact stat_Subscription.mono _ _
      | exact LeO.none _
      | refine LeO.ite ?_ ?_
      | refine LeO.bind ?_ (fun _ => ?_)
theorem gangwaylaw20_StatSubs.mono : ∀ a0 k, LeO (gangwaylaw20_StatSubs.f k a0) (gangwaylaw20_StatSubs.f (k + 1) a0) := by
  intro a0 k
  obtain ⟨ih0, ih1, ih2, ih3, ih4, ih5, ih6, ih7⟩ := gangwaylaw20_StatSubs.mono_l k
  unfold gangwaylaw20_StatSubs.f
  repeat' first
      | (with_reducible exact ih0)
      | (with_reducible exact ih1 _ _)
      | (with_reducible exact ih2 _ _ _)
      | (with_reducible exact ih3 _ _)
      | (with_reducible exact ih4 _ _ _ _ _ _ _ _ _ _ _ _ _ _ _ _ _ _ _ _ _ _ _ _ _)
      | (with_reducible exact ih5 _ _ _ _ _ _ _ _ _ _ _ _ _ _ _ _ _ _ _ _ _ _ _ _ _ _ _ _ _ _ _)
      | (with_reducible exact ih6 _ _ _)
      | (with_reducible exact ih7 _ _ _)
      | (with_reducible exact gangwaylaw20_wakes.mono _)
      | (with_reducible exact gangwayref20_Subscription.mono _ _)
      | (with_reducible exact stat_Subscription.mono _ _)
      | (with_reducible exact LeO.refl _)
      | (with_reducible exact LeO.none _)
      | (with_reducible refine LeO.ite ?_ ?_)
      | (with_reducible refine LeO.bind ?_ (fun _ => ?_))
      | exact ih0
      | exact ih1 _ _
      | exact ih2 _ _ _
      | exact ih3 _ _
      | exact ih4 _ _ _ _ _ _ _ _ _ _ _ _ _ _ _ _ _ _ _ _ _ _ _ _ _
      | exact ih5 _ _ _ _ _ _ _ _ _ _ _ _ _ _ _ _ _ _ _ _ _ _ _ _ _ _ _ _ _ _ _
      | exact ih6 _ _ _
      | exact ih7 _ _ _
      | exact gangwaylaw20_wakes.mono _
      | exact gangwayref20_Subscription.mono _ _
      | exact stat_Subscription.mono _ _
      | exact LeO.none _
      | refine LeO.ite ?_ ?_
      | refine LeO.bind ?_ (fun _ => ?_)
set_option maxHeartbeats 8000000 in
set_option maxRecDepth 100000 in
theorem gangwaylaw20_StatSubs.calls (k : Nat) (A0 : Option Addr) (c0 : Nat) (l0 : List (S35)) (r : Bool) (w : World) (hr0 : Kd.C k35 w A0 l0.length l0) (hc0 : l0.length ≤ c0) (h : gangwaylaw20_StatSubs.f k l0 = some r) :
    Calls Try.prog 5 #[.slice A0 l0.length c0] w fun e w' => e = .returned (.bool r) ∧ Below w.heap.size w w' := by
  have hu35 := Try.underlying35
  have hu45 := Try.underlying45
  have HR0 := Aside0.mk hr0
  have HC0 := Aside0.mk hc0
  clear hr0 hc0
  have HB := Aside0.mk (Below.refl w.heap.size w)
  have H : (gangwaylaw20_StatSubs.l0 k l0 0) = some r := h
  clear h
  have HC2 := Aside0.mk H
  clear H
  go_enter Try.func5, Try.ntmps5
  go_upto_block 0 with (fail)
  go_cut [] (fun wc => ∃ (kq : Nat), Aside0 (gangwaylaw20_StatSubs.j7 kq  = some r) ∧ Aside0 (kq ≤ k) ∧ Aside0 (Below w.heap.size w wc))
  case first =>
    have H := HC2.out
    clear HC2
    have H' := Aside0.mk H
    clear H
    go_wp2
    go_loopg [3] k (fun kq v3 w' => ∃ (x3_1 : Int), v3 = .int .i64 x3_1 ∧ Aside0 (gangwaylaw20_StatSubs.l0 kq l0 x3_1 = some r) ∧ Aside0 (kq ≤ k) ∧ Aside0 (Below w.heap.size w w'))
    case atStart => exact ⟨(0), (by first | rfl | (simp; done) | (simp [*]; done)), H', ⟨Nat.le_refl _⟩, ⟨by repeat (first | (with_reducible first | exact HB.out | apply below_alloc | apply pw_below_drewN | apply below_drew1) | exact HB.out)⟩⟩
    case round =>
      clear H'
      try clear p2
      obtain ⟨x3_1, rfl, HA, HK1, HB⟩ := hrel
      cases gk with
      | zero => exact absurd HA.out (by simp [gangwaylaw20_StatSubs.l0])
      | succ k1 =>
        have H := HA.out
        clear HA
        simp only [gangwaylaw20_StatSubs.l0] at H
        have HC3 := Aside0.mk H
        clear H
        go_upto_region 2 with (fail)
        go_cut [16] (fun v16 wc => ∃ (kq : Nat) (x16_2 : Bool), v16 = .bool x16_2 ∧ Aside0 (gangwaylaw20_StatSubs.j1 kq l0 x3_1 x16_2 = some r) ∧ Aside0 (kq ≤ k1) ∧ Aside0 (Below w.heap.size w wc))
        case first =>
          have H := HC3.out
          clear HC3
          by_cases c4 : x3_1 < (l0.length : Int)
          · rw [if_pos c4] at H
            have c4b0 : decide (x3_1 < (l0.length : Int)) = true := decide_eq_true c4
            clear c4
            (first | rw [c4b0] | (simp only [i64_w, i32_w]; rw [c4b0]) | skip)
            have H' := Aside0.mk H
            clear H
            go_wp2
            go_meet
            case rel => exact ⟨_, (decide (x3_1 < 20)), (by first | rfl | (simp; done) | (simp [*]; done)), H', ⟨by have := HK1.out; first | omega | exact Nat.le_refl _⟩, ⟨by repeat (first | (with_reducible first | exact HB.out | apply below_alloc | apply pw_below_drewN | apply below_drew1) | exact HB.out)⟩⟩
          · rw [if_neg c4] at H
            have c4b0 : decide (x3_1 < (l0.length : Int)) = false := decide_eq_false c4
            clear c4
            (first | rw [c4b0] | (simp only [i64_w, i32_w]; rw [c4b0]) | skip)
            have H' := Aside0.mk H
            clear H
            go_wp2
            go_meet
            case rel => exact ⟨_, (false), (by first | rfl | (simp; done) | (simp [*]; done)), H', ⟨by have := HK1.out; first | omega | exact Nat.le_refl _⟩, ⟨by repeat (first | (with_reducible first | exact HB.out | apply below_alloc | apply pw_below_drewN | apply below_drew1) | exact HB.out)⟩⟩
        case rest =>
          as_aux_lemma =>
            clear HC3
            try clear p2
            try clear c4
            try clear c4b0
            try clear p2
            obtain ⟨kq, x16_2, rfl, HA, HJ2, HB⟩ := hcut
            cases kq with
            | zero => exact absurd HA.out (by simp [gangwaylaw20_StatSubs.j1])
            | succ kj2 =>
              have H := HA.out
              clear HA
              simp only [gangwaylaw20_StatSubs.j1] at H
              have HC5 := Aside0.mk H
              clear H
              go_upto_if 16 with (fail)
              go_cut [] (fun wc => ∃ (kq : Nat), Aside0 (gangwaylaw20_StatSubs.j2 kq l0 x3_1 = some r) ∧ Aside0 (kq ≤ kj2) ∧ Aside0 (Below w.heap.size w wc))
              case first =>
                have H := HC5.out
                clear HC5
                by_cases c6 : x16_2 = true
                · subst c6
                  have H1 : (gangwaylaw20_StatSubs.j2 kj2 l0 x3_1) = some r := by rw [if_pos rfl] at H; exact H
                  clear H
                  have H := H1
                  clear H1
                  have H' := Aside0.mk H
                  clear H
                  go_wp2
                  go_meet
                  case rel => exact ⟨_, H', ⟨by have := HK1.out; have := HJ2.out; first | omega | exact Nat.le_refl _⟩, ⟨by repeat (first | (with_reducible first | exact HB.out | apply below_alloc | apply pw_below_drewN | apply below_drew1) | exact HB.out)⟩⟩
                · replace c6 := Bool.eq_false_iff.mpr c6
                  subst c6
                  have H1 : (gangwaylaw20_StatSubs.j7 kj2) = some r := by rw [if_neg (show ¬ (false = true) by decide)] at H; exact H
                  clear H
                  have H := H1
                  clear H1
                  have H' := Aside0.mk H
                  clear H
                  go_wp2
                  go_meet
                  case rel => exact ⟨_, H', ⟨by have := HK1.out; have := HJ2.out; first | omega | exact Nat.le_refl _⟩, ⟨by repeat (first | (with_reducible first | exact HB.out | apply below_alloc | apply pw_below_drewN | apply below_drew1) | exact HB.out)⟩⟩
              case rest =>
                as_aux_lemma =>
                  clear HC5
                  try clear p2
                  try clear c4
                  try clear c4b0
                  try clear c5
                  try clear c6
                  try clear p2
                  obtain ⟨kq, HA, HJ4, HB⟩ := hcut
                  cases kq with
                  | zero => exact absurd HA.out (by simp [gangwaylaw20_StatSubs.j2])
                  | succ kj4 =>
                    have H := HA.out
                    clear HA
                    simp only [gangwaylaw20_StatSubs.j2] at H
                    by_cases c7 : 0 ≤ x3_1
                    · as_aux_lemma =>
                        rw [if_pos c7] at H
                        have c7b0 : decide (0 ≤ x3_1) = true := decide_eq_true c7
                        clear c7
                        by_cases c8 : x3_1 < (l0.length : Int)
                        · as_aux_lemma =>
                            rw [if_pos c8] at H
                            have c8b0 : decide (x3_1 < (l0.length : Int)) = true := decide_eq_true c8
                            clear c8
                            replace H := Option.bind_eq_some_iff.mp H
                            obtain ⟨t264, A90, H⟩ := H
                            replace H : (if t264 = true then (some true) else (gangwaylaw20_StatSubs.j3 kj4 l0 x3_1 ((rd_T35 l0 x3_1).f0.f0) ((rd_T35 l0 x3_1).f0.f1) ((rd_T35 l0 x3_1).f0.f2) ((rd_T35 l0 x3_1).f0.f3) ((rd_T35 l0 x3_1).f0.f4) ((rd_T35 l0 x3_1).f0.f5) ((rd_T35 l0 x3_1).f0.f6) ((rd_T35 l0 x3_1).f1.f0) ((rd_T35 l0 x3_1).f1.f1) ((rd_T35 l0 x3_1).f1.f2) ((rd_T35 l0 x3_1).f1.f3) ((rd_T35 l0 x3_1).f1.f4) ((rd_T35 l0 x3_1).f1.f5) ((rd_T35 l0 x3_1).f2) ((rd_T35 l0 x3_1).f3) ((rd_T35 l0 x3_1).f4) ((rd_T35 l0 x3_1).f5) ((rd_T35 l0 x3_1).f6) ((rd_T35 l0 x3_1).f7.f0) ((rd_T35 l0 x3_1).f7.f1) ((rd_T35 l0 x3_1).f7.f2) ((rd_T35 l0 x3_1).f7.f3) ((rd_T35 l0 x3_1).f8))) = some r := H
                            have A9 := Aside0.mk A90
                            clear A90
                            have HC10 := Aside0.mk H
                            clear H
                            have p262 : 0 ≤ (x3_1 : Int) := of_decide_eq_true (by first | (with_reducible assumption) | assumption)
                            have q262 : x3_1 < (l0.length : Int) := of_decide_eq_true (by first | (with_reducible assumption) | assumption)
                            obtain ⟨ad262, A262_8, c262_8, A262_9, c262_9, A262_22, c262_22, e262, hx262_0, hx262_1, hx262_2, hx262_3, hx262_4, hx262_5, hx262_6, hx262_7, hx262_8, hx262_9, hx262_10, hx262_11, hx262_12, hx262_13, hx262_14, hx262_15, hx262_16, hx262_17, hx262_18, hx262_19, hx262_20, hx262_21, hx262_22, hl262_8, hi262_8, hl262_9, hi262_9, hl262_22, hi262_22⟩ := at_T35 HR0.out x3_1 p262 q262
                            cases e262
                            replace hx262_0 := (HB.out.cell (World.block_lt_of_cell? w _ hx262_0)).trans hx262_0
                            replace hx262_1 := (HB.out.cell (World.block_lt_of_cell? w _ hx262_1)).trans hx262_1
                            replace hx262_2 := (HB.out.cell (World.block_lt_of_cell? w _ hx262_2)).trans hx262_2
                            replace hx262_3 := (HB.out.cell (World.block_lt_of_cell? w _ hx262_3)).trans hx262_3
                            replace hx262_4 := (HB.out.cell (World.block_lt_of_cell? w _ hx262_4)).trans hx262_4
                            replace hx262_5 := (HB.out.cell (World.block_lt_of_cell? w _ hx262_5)).trans hx262_5
                            replace hx262_6 := (HB.out.cell (World.block_lt_of_cell? w _ hx262_6)).trans hx262_6
                            replace hx262_7 := (HB.out.cell (World.block_lt_of_cell? w _ hx262_7)).trans hx262_7
                            replace hx262_8 := (HB.out.cell (World.block_lt_of_cell? w _ hx262_8)).trans hx262_8
                            replace hx262_9 := (HB.out.cell (World.block_lt_of_cell? w _ hx262_9)).trans hx262_9
                            replace hx262_10 := (HB.out.cell (World.block_lt_of_cell? w _ hx262_10)).trans hx262_10
                            replace hx262_11 := (HB.out.cell (World.block_lt_of_cell? w _ hx262_11)).trans hx262_11
                            replace hx262_12 := (HB.out.cell (World.block_lt_of_cell? w _ hx262_12)).trans hx262_12
                            replace hx262_13 := (HB.out.cell (World.block_lt_of_cell? w _ hx262_13)).trans hx262_13
                            replace hx262_14 := (HB.out.cell (World.block_lt_of_cell? w _ hx262_14)).trans hx262_14
                            replace hx262_15 := (HB.out.cell (World.block_lt_of_cell? w _ hx262_15)).trans hx262_15
                            replace hx262_16 := (HB.out.cell (World.block_lt_of_cell? w _ hx262_16)).trans hx262_16
                            replace hx262_17 := (HB.out.cell (World.block_lt_of_cell? w _ hx262_17)).trans hx262_17
                            replace hx262_18 := (HB.out.cell (World.block_lt_of_cell? w _ hx262_18)).trans hx262_18
                            replace hx262_19 := (HB.out.cell (World.block_lt_of_cell? w _ hx262_19)).trans hx262_19
                            replace hx262_20 := (HB.out.cell (World.block_lt_of_cell? w _ hx262_20)).trans hx262_20
                            replace hx262_21 := (HB.out.cell (World.block_lt_of_cell? w _ hx262_21)).trans hx262_21
                            replace hx262_22 := (HB.out.cell (World.block_lt_of_cell? w _ hx262_22)).trans hx262_22
                            have HR262_8 := Aside0.mk hi262_8
                            have HC262_8 := Aside0.mk hl262_8
                            clear hi262_8 hl262_8
                            have HR262_9 := Aside0.mk hi262_9
                            have HC262_9 := Aside0.mk hl262_9
                            clear hi262_9 hl262_9
                            have HR262_22 := Aside0.mk hi262_22
                            have HC262_22 := Aside0.mk hl262_22
                            clear hi262_22 hl262_22
                            replace p262 := eq_true p262
                            replace q262 := eq_true q262
                            go_upto_if 24 with (first | ((with_reducible refine gate_dst (N := 22) rfl ?_); refine Go.Proofs.YthhmnecnoojcpaaO.load_cells ?hg (N := 22) ?hd 35 (x := ?xo22_) ?ho (ad := ?ad22_) ?hx [.int .i64 ((rd_T35 l0 x3_1).f0.f0), .int .i64 ((rd_T35 l0 x3_1).f0.f1), .int .i64 ((rd_T35 l0 x3_1).f0.f2), .int .i64 ((rd_T35 l0 x3_1).f0.f3), .int .i64 ((rd_T35 l0 x3_1).f0.f4), .int .i64 ((rd_T35 l0 x3_1).f0.f5), .string ((rd_T35 l0 x3_1).f0.f6), .int .i64 ((rd_T35 l0 x3_1).f1.f0), .slice A262_8 ((rd_T35 l0 x3_1).f1.f1).length c262_8, .slice A262_9 ((rd_T35 l0 x3_1).f1.f2).length c262_9, .string ((rd_T35 l0 x3_1).f1.f3), .int .i64 ((rd_T35 l0 x3_1).f1.f4), .int .i64 ((rd_T35 l0 x3_1).f1.f5), .int .i64 ((rd_T35 l0 x3_1).f2), .string ((rd_T35 l0 x3_1).f3), .int .i64 ((rd_T35 l0 x3_1).f4), .int .i64 ((rd_T35 l0 x3_1).f5), .int .i64 ((rd_T35 l0 x3_1).f6), .int .i64 ((rd_T35 l0 x3_1).f7.f0), .int .i64 ((rd_T35 l0 x3_1).f7.f1), .int .i64 ((rd_T35 l0 x3_1).f7.f2), .int .i64 ((rd_T35 l0 x3_1).f7.f3), .slice A262_22 ((rd_T35 l0 x3_1).f8).length c262_22] Try.underlying35 (by kernel_rfl) ?hc ?_; (case hd => rfl); (case hg => rfl); (case ho => rfl); (case hx => rfl); (case hc => exact ⟨hx262_0, hx262_1, hx262_2, hx262_3, hx262_4, hx262_5, hx262_6, hx262_7, hx262_8, hx262_9, hx262_10, hx262_11, hx262_12, hx262_13, hx262_14, hx262_15, hx262_16, hx262_17, hx262_18, hx262_19, hx262_20, hx262_21, hx262_22, trivial⟩)) | ((with_reducible refine gate_dst (N := 4) rfl ?_); refine box_event ?hg (N := 4) ?hd (cs := #[.int .i64 0, .int .i64 0, .int .i64 0, .int .i64 0, .int .i64 0, .int .i64 0, .string (⟨#[]⟩ : ByteArray), .int .i64 0, .slice none 0 0, .slice none 0 0, .string (⟨#[]⟩ : ByteArray), .int .i64 0, .int .i64 0, .int .i64 0, .string (⟨#[]⟩ : ByteArray), .int .i64 0, .int .i64 0, .int .i64 0, .int .i64 0, .int .i64 0, .int .i64 0, .int .i64 0, .slice none 0 0]) (t := 35) ?hr ?_; (case hd => rfl); (case hg => rfl); (case hr => first | (go_simp; done) | (go_simp; rfl)); intro gb263 hg w11 hbox hb; have n0_ := Aside0.mk (below_step (by repeat (first | (with_reducible first | exact HB.out | apply below_alloc | apply pw_below_drewN | apply below_drew1) | exact HB.out)) hb); have n1_ := Aside0.mk (hbox); have n2_ := Aside0.mk ((by rw [hg]; exact (below_size (by repeat (first | (with_reducible first | exact HB.out | apply below_alloc | apply pw_below_drewN | apply below_drew1) | exact HB.out))) : w.heap.size ≤ gb263)); have n3_ := Aside0.mk ((by rw [hg]; exact (below_size (by repeat (first | (with_reducible first | exact HB.out | apply below_alloc | apply pw_below_drewN | apply below_drew1) | exact HB.out))) : w.heap.size ≤ gb263)); clear HB; have HB := n0_; have BK263 := n1_; have GW263 := n2_; have GE263 := n3_; clear n0_ n1_ n2_ n3_; clear hb hbox hg) | ((with_reducible refine gate_store (t := 35) (p := 4) rfl ?_); refine Go.Proofs.YthhmnecnoojcpaaO.store_whole ?hg ?hn (ty := 35) (x := ?xs_w12) (y := ?ys_w12) ?ho (g := gb263) ?hx [.int .i64 ((rd_T35 l0 x3_1).f0.f0), .int .i64 ((rd_T35 l0 x3_1).f0.f1), .int .i64 ((rd_T35 l0 x3_1).f0.f2), .int .i64 ((rd_T35 l0 x3_1).f0.f3), .int .i64 ((rd_T35 l0 x3_1).f0.f4), .int .i64 ((rd_T35 l0 x3_1).f0.f5), .string ((rd_T35 l0 x3_1).f0.f6), .int .i64 ((rd_T35 l0 x3_1).f1.f0), .slice A262_8 ((rd_T35 l0 x3_1).f1.f1).length c262_8, .slice A262_9 ((rd_T35 l0 x3_1).f1.f2).length c262_9, .string ((rd_T35 l0 x3_1).f1.f3), .int .i64 ((rd_T35 l0 x3_1).f1.f4), .int .i64 ((rd_T35 l0 x3_1).f1.f5), .int .i64 ((rd_T35 l0 x3_1).f2), .string ((rd_T35 l0 x3_1).f3), .int .i64 ((rd_T35 l0 x3_1).f4), .int .i64 ((rd_T35 l0 x3_1).f5), .int .i64 ((rd_T35 l0 x3_1).f6), .int .i64 ((rd_T35 l0 x3_1).f7.f0), .int .i64 ((rd_T35 l0 x3_1).f7.f1), .int .i64 ((rd_T35 l0 x3_1).f7.f2), .int .i64 ((rd_T35 l0 x3_1).f7.f3), .slice A262_22 ((rd_T35 l0 x3_1).f8).length c262_22] ?hy BK263.out (by kernel_rfl) rfl rfl ?_; (case ho => rfl); (case hg => rfl); (case hn => rfl); (case hx => rfl); (case hy => rfl); intro w12 hb_ hO_ hB_; have n0_ := Aside0.mk (hb_); have n1_ := Aside0.mk (hB_ _ _ HB.out GE263.out); clear BK263; clear HB; have BK263 := n0_; have HB := n1_; clear n0_ n1_; clear hb_ hO_ hB_) | ((with_reducible refine gate_dst (N := 23) rfl ?_); refine Go.Proofs.YthhmnecnoojcpaaO.load_whole ?hg (N := 23) ?hd 35 (x := ?xo23_) ?ho (g := gb263) ?hx (cs := #[.int .i64 ((rd_T35 l0 x3_1).f0.f0), .int .i64 ((rd_T35 l0 x3_1).f0.f1), .int .i64 ((rd_T35 l0 x3_1).f0.f2), .int .i64 ((rd_T35 l0 x3_1).f0.f3), .int .i64 ((rd_T35 l0 x3_1).f0.f4), .int .i64 ((rd_T35 l0 x3_1).f0.f5), .string ((rd_T35 l0 x3_1).f0.f6), .int .i64 ((rd_T35 l0 x3_1).f1.f0), .slice A262_8 ((rd_T35 l0 x3_1).f1.f1).length c262_8, .slice A262_9 ((rd_T35 l0 x3_1).f1.f2).length c262_9, .string ((rd_T35 l0 x3_1).f1.f3), .int .i64 ((rd_T35 l0 x3_1).f1.f4), .int .i64 ((rd_T35 l0 x3_1).f1.f5), .int .i64 ((rd_T35 l0 x3_1).f2), .string ((rd_T35 l0 x3_1).f3), .int .i64 ((rd_T35 l0 x3_1).f4), .int .i64 ((rd_T35 l0 x3_1).f5), .int .i64 ((rd_T35 l0 x3_1).f6), .int .i64 ((rd_T35 l0 x3_1).f7.f0), .int .i64 ((rd_T35 l0 x3_1).f7.f1), .int .i64 ((rd_T35 l0 x3_1).f7.f2), .int .i64 ((rd_T35 l0 x3_1).f7.f3), .slice A262_22 ((rd_T35 l0 x3_1).f8).length c262_22]) BK263.out Try.underlying35 (by kernel_rfl) ?_; (case hd => rfl); (case hg => rfl); (case ho => rfl); (case hx => rfl)) | ((with_reducible refine gate_callee (f := 15) rfl ?_); refine goesL_ (some 24) rfl rfl Try.func15 (by kernel_rfl) rfl #[.agg #[.int .i64 ((rd_T35 l0 x3_1).f0.f0), .int .i64 ((rd_T35 l0 x3_1).f0.f1), .int .i64 ((rd_T35 l0 x3_1).f0.f2), .int .i64 ((rd_T35 l0 x3_1).f0.f3), .int .i64 ((rd_T35 l0 x3_1).f0.f4), .int .i64 ((rd_T35 l0 x3_1).f0.f5), .string ((rd_T35 l0 x3_1).f0.f6), .int .i64 ((rd_T35 l0 x3_1).f1.f0), .slice A262_8 ((rd_T35 l0 x3_1).f1.f1).length c262_8, .slice A262_9 ((rd_T35 l0 x3_1).f1.f2).length c262_9, .string ((rd_T35 l0 x3_1).f1.f3), .int .i64 ((rd_T35 l0 x3_1).f1.f4), .int .i64 ((rd_T35 l0 x3_1).f1.f5), .int .i64 ((rd_T35 l0 x3_1).f2), .string ((rd_T35 l0 x3_1).f3), .int .i64 ((rd_T35 l0 x3_1).f4), .int .i64 ((rd_T35 l0 x3_1).f5), .int .i64 ((rd_T35 l0 x3_1).f6), .int .i64 ((rd_T35 l0 x3_1).f7.f0), .int .i64 ((rd_T35 l0 x3_1).f7.f1), .int .i64 ((rd_T35 l0 x3_1).f7.f2), .int .i64 ((rd_T35 l0 x3_1).f7.f3), .slice A262_22 ((rd_T35 l0 x3_1).f8).length c262_22]] rfl (by (try simp only [List.map_toArray, List.map_cons, List.map_nil]); first | done | rfl | (simp only [List.length_drop, List.length_take]; rfl)) ?_; (with_reducible refine (gangwaylaw20_heavy.calls ((rd_T35 l0 x3_1).f0.f0) ((rd_T35 l0 x3_1).f0.f1) ((rd_T35 l0 x3_1).f0.f2) ((rd_T35 l0 x3_1).f0.f3) ((rd_T35 l0 x3_1).f0.f4) ((rd_T35 l0 x3_1).f0.f5) ((rd_T35 l0 x3_1).f0.f6) ((rd_T35 l0 x3_1).f1.f0) _ _ ((rd_T35 l0 x3_1).f1.f1) _ _ ((rd_T35 l0 x3_1).f1.f2) ((rd_T35 l0 x3_1).f1.f3) ((rd_T35 l0 x3_1).f1.f4) ((rd_T35 l0 x3_1).f1.f5) ((rd_T35 l0 x3_1).f2) ((rd_T35 l0 x3_1).f3) ((rd_T35 l0 x3_1).f4) ((rd_T35 l0 x3_1).f5) ((rd_T35 l0 x3_1).f6) ((rd_T35 l0 x3_1).f7.f0) ((rd_T35 l0 x3_1).f7.f1) ((rd_T35 l0 x3_1).f7.f2) ((rd_T35 l0 x3_1).f7.f3) _ _ ((rd_T35 l0 x3_1).f8) t264 _ ?side1 ?side2 ?side3 ?side4 ?side5 ?side6 A9.out).mono ?_); (case side1 => repeat (first | exact (Kd.C_below HR262_8.out HB.out) | (with_reducible refine Kd.C_alloc ?_ _) | (with_reducible refine Kd.C_drewN ?_ _) | (with_reducible refine Kd.C_drew ?_))); (case side2 => exact HC262_8.out); (case side3 => repeat (first | exact (Kd.C_below HR262_9.out HB.out) | (with_reducible refine Kd.C_alloc ?_ _) | (with_reducible refine Kd.C_drewN ?_ _) | (with_reducible refine Kd.C_drew ?_))); (case side4 => exact HC262_9.out); (case side5 => repeat (first | exact (Kd.C_below HR262_22.out HB.out) | (with_reducible refine Kd.C_alloc ?_ _) | (with_reducible refine Kd.C_drewN ?_ _) | (with_reducible refine Kd.C_drew ?_))); (case side6 => exact HC262_22.out); rintro e w13 ⟨rfl, hb⟩; refine ⟨_, rfl, ?_⟩; have n0_ := Aside0.mk (blk_below (g := gb263) (o := .cells #[.int .i64 ((rd_T35 l0 x3_1).f0.f0), .int .i64 ((rd_T35 l0 x3_1).f0.f1), .int .i64 ((rd_T35 l0 x3_1).f0.f2), .int .i64 ((rd_T35 l0 x3_1).f0.f3), .int .i64 ((rd_T35 l0 x3_1).f0.f4), .int .i64 ((rd_T35 l0 x3_1).f0.f5), .string ((rd_T35 l0 x3_1).f0.f6), .int .i64 ((rd_T35 l0 x3_1).f1.f0), .slice A262_8 ((rd_T35 l0 x3_1).f1.f1).length c262_8, .slice A262_9 ((rd_T35 l0 x3_1).f1.f2).length c262_9, .string ((rd_T35 l0 x3_1).f1.f3), .int .i64 ((rd_T35 l0 x3_1).f1.f4), .int .i64 ((rd_T35 l0 x3_1).f1.f5), .int .i64 ((rd_T35 l0 x3_1).f2), .string ((rd_T35 l0 x3_1).f3), .int .i64 ((rd_T35 l0 x3_1).f4), .int .i64 ((rd_T35 l0 x3_1).f5), .int .i64 ((rd_T35 l0 x3_1).f6), .int .i64 ((rd_T35 l0 x3_1).f7.f0), .int .i64 ((rd_T35 l0 x3_1).f7.f1), .int .i64 ((rd_T35 l0 x3_1).f7.f2), .int .i64 ((rd_T35 l0 x3_1).f7.f3), .slice A262_22 ((rd_T35 l0 x3_1).f8).length c262_22] 35 (0, 0)) (by (with_reducible repeat (first | refine blk_drewN ?_ _ | refine blk_drew ?_ | refine blk_alloc ?_ _)); exact BK263.out) hb); have n1_ := Aside0.mk (below_step (by repeat (first | (with_reducible first | exact HB.out | apply below_alloc | apply pw_below_drewN | apply below_drew1 | refine below_set ?_ GE263.out) | exact HB.out)) hb); clear BK263; clear HB; have BK263 := n0_; have HB := n1_; clear n0_ n1_; (try clear hb); (try clear hb2); (try clear hk); (try clear hi)))
                            (try simp only [Act.put, List.setIfInBounds_toArray, List.set_cons_zero, List.set_cons_succ])
                            go_cut [] (fun wc => ∃ (kq : Nat), Aside0 (gangwaylaw20_StatSubs.j3 kq l0 x3_1 ((rd_T35 l0 x3_1).f0.f0) ((rd_T35 l0 x3_1).f0.f1) ((rd_T35 l0 x3_1).f0.f2) ((rd_T35 l0 x3_1).f0.f3) ((rd_T35 l0 x3_1).f0.f4) ((rd_T35 l0 x3_1).f0.f5) ((rd_T35 l0 x3_1).f0.f6) ((rd_T35 l0 x3_1).f1.f0) ((rd_T35 l0 x3_1).f1.f1) ((rd_T35 l0 x3_1).f1.f2) ((rd_T35 l0 x3_1).f1.f3) ((rd_T35 l0 x3_1).f1.f4) ((rd_T35 l0 x3_1).f1.f5) ((rd_T35 l0 x3_1).f2) ((rd_T35 l0 x3_1).f3) ((rd_T35 l0 x3_1).f4) ((rd_T35 l0 x3_1).f5) ((rd_T35 l0 x3_1).f6) ((rd_T35 l0 x3_1).f7.f0) ((rd_T35 l0 x3_1).f7.f1) ((rd_T35 l0 x3_1).f7.f2) ((rd_T35 l0 x3_1).f7.f3) ((rd_T35 l0 x3_1).f8) = some r) ∧ Aside0 (kq ≤ kj4) ∧ Aside0 (wc.heap[gb263]? = some (.cells #[.int .i64 ((rd_T35 l0 x3_1).f0.f0), .int .i64 ((rd_T35 l0 x3_1).f0.f1), .int .i64 ((rd_T35 l0 x3_1).f0.f2), .int .i64 ((rd_T35 l0 x3_1).f0.f3), .int .i64 ((rd_T35 l0 x3_1).f0.f4), .int .i64 ((rd_T35 l0 x3_1).f0.f5), .string ((rd_T35 l0 x3_1).f0.f6), .int .i64 ((rd_T35 l0 x3_1).f1.f0), (.slice A262_8 ((rd_T35 l0 x3_1).f1.f1).length c262_8), (.slice A262_9 ((rd_T35 l0 x3_1).f1.f2).length c262_9), .string ((rd_T35 l0 x3_1).f1.f3), .int .i64 ((rd_T35 l0 x3_1).f1.f4), .int .i64 ((rd_T35 l0 x3_1).f1.f5), .int .i64 ((rd_T35 l0 x3_1).f2), .string ((rd_T35 l0 x3_1).f3), .int .i64 ((rd_T35 l0 x3_1).f4), .int .i64 ((rd_T35 l0 x3_1).f5), .int .i64 ((rd_T35 l0 x3_1).f6), .int .i64 ((rd_T35 l0 x3_1).f7.f0), .int .i64 ((rd_T35 l0 x3_1).f7.f1), .int .i64 ((rd_T35 l0 x3_1).f7.f2), .int .i64 ((rd_T35 l0 x3_1).f7.f3), (.slice A262_22 ((rd_T35 l0 x3_1).f8).length c262_22)] 35 (0, 0))) ∧ Aside0 (Below w.heap.size w wc))
                            case first =>
                              have H := HC10.out
                              clear HC10
                              by_cases c14 : t264 = true
                              · subst c14
                                have H1 : (some true) = some r := by rw [if_pos rfl] at H; exact H
                                clear H
                                have H := H1
                                clear H1
                                obtain rfl := Option.some.inj H
                                go_wp2
                                go_ret
                                exact ⟨by first | rfl | (simp [errW_none, errW_some] <;> rfl) | (simp [*, errW_none, errW_some] <;> rfl), by repeat (first | (with_reducible first | exact HB.out | apply below_alloc | apply pw_below_drewN | apply below_drew1 | refine below_set ?_ GE263.out) | exact HB.out)⟩
                              · replace c14 := Bool.eq_false_iff.mpr c14
                                subst c14
                                have H1 : (gangwaylaw20_StatSubs.j3 kj4 l0 x3_1 ((rd_T35 l0 x3_1).f0.f0) ((rd_T35 l0 x3_1).f0.f1) ((rd_T35 l0 x3_1).f0.f2) ((rd_T35 l0 x3_1).f0.f3) ((rd_T35 l0 x3_1).f0.f4) ((rd_T35 l0 x3_1).f0.f5) ((rd_T35 l0 x3_1).f0.f6) ((rd_T35 l0 x3_1).f1.f0) ((rd_T35 l0 x3_1).f1.f1) ((rd_T35 l0 x3_1).f1.f2) ((rd_T35 l0 x3_1).f1.f3) ((rd_T35 l0 x3_1).f1.f4) ((rd_T35 l0 x3_1).f1.f5) ((rd_T35 l0 x3_1).f2) ((rd_T35 l0 x3_1).f3) ((rd_T35 l0 x3_1).f4) ((rd_T35 l0 x3_1).f5) ((rd_T35 l0 x3_1).f6) ((rd_T35 l0 x3_1).f7.f0) ((rd_T35 l0 x3_1).f7.f1) ((rd_T35 l0 x3_1).f7.f2) ((rd_T35 l0 x3_1).f7.f3) ((rd_T35 l0 x3_1).f8)) = some r := by rw [if_neg (show ¬ (false = true) by decide)] at H; exact H
                                clear H
                                have H := H1
                                clear H1
                                have H' := Aside0.mk H
                                clear H
                                go_wp2
                                go_meet
                                case rel => exact ⟨_, H', ⟨by have := HK1.out; have := HJ2.out; have := HJ4.out; first | omega | exact Nat.le_refl _⟩, ⟨by (with_reducible repeat (first | refine blk_drewN ?_ _ | refine blk_drew ?_ | refine blk_alloc ?_ _)); exact BK263.out⟩, ⟨by repeat (first | (with_reducible first | exact HB.out | apply below_alloc | apply pw_below_drewN | apply below_drew1 | refine below_set ?_ GE263.out) | exact HB.out)⟩⟩
                            case rest =>
                              as_aux_lemma =>
                                clear HC10
                                try clear c1
                                try clear c2
                                try clear p2
                                try clear q2
                                try clear hx2
                                try clear c4
                                try clear c4b0
                                try clear c5
                                try clear c6
                                try clear c7
                                try clear c7b0
                                try clear c8
                                try clear c8b0
                                try clear c14
                                try clear hx262_0
                                try clear hx262_1
                                try clear hx262_10
                                try clear hx262_11
                                try clear hx262_12
                                try clear hx262_13
                                try clear hx262_14
                                try clear hx262_15
                                try clear hx262_16
                                try clear hx262_17
                                try clear hx262_18
                                try clear hx262_19
                                try clear hx262_2
                                try clear hx262_20
                                try clear hx262_21
                                try clear hx262_22
                                try clear hx262_3
                                try clear hx262_4
                                try clear hx262_5
                                try clear hx262_6
                                try clear hx262_7
                                try clear hx262_8
                                try clear hx262_9
                                try clear p2
                                try clear p262
                                try clear q262
                                obtain ⟨kq, HA, HJ9, BK263, HB⟩ := hcut
                                cases kq with
                                | zero => exact absurd HA.out (by simp [gangwaylaw20_StatSubs.j3])
                                | succ kj9 =>
                                  have H := HA.out
                                  clear HA
                                  simp only [gangwaylaw20_StatSubs.j3] at H
                                  replace H := Option.bind_eq_some_iff.mp H
                                  obtain ⟨⟨t265, t266, t267, t268, t269, t270⟩, A150, H⟩ := H
                                  replace H : (if (((rd_T35 l0 x3_1).f8).length : Int) = 48 then (gangwaylaw20_StatSubs.j5 kj9 l0 x3_1 t270 ((rd_T35 l0 x3_1).f0.f0) ((rd_T35 l0 x3_1).f0.f1) ((rd_T35 l0 x3_1).f0.f2) ((rd_T35 l0 x3_1).f0.f3) ((rd_T35 l0 x3_1).f0.f4) ((rd_T35 l0 x3_1).f0.f5) ((rd_T35 l0 x3_1).f0.f6) ((rd_T35 l0 x3_1).f1.f0) ((rd_T35 l0 x3_1).f1.f1) ((rd_T35 l0 x3_1).f1.f2) ((rd_T35 l0 x3_1).f1.f3) ((rd_T35 l0 x3_1).f1.f4) ((rd_T35 l0 x3_1).f1.f5) ((rd_T35 l0 x3_1).f2) ((rd_T35 l0 x3_1).f3) ((rd_T35 l0 x3_1).f4) ((rd_T35 l0 x3_1).f5) ((rd_T35 l0 x3_1).f6) ((rd_T35 l0 x3_1).f7.f0) ((rd_T35 l0 x3_1).f7.f1) ((rd_T35 l0 x3_1).f7.f2) ((rd_T35 l0 x3_1).f7.f3) ((rd_T35 l0 x3_1).f8) t265 t266 t267 t268 t269) else ((gangwaylaw20_num.f t270).bind fun t272 => (if t272 = 100 then (gangwaylaw20_StatSubs.j4 kj9 l0 x3_1 (!(t265 == 0) || (!(t266 == 0) || (!(t267 == 0) || (!(t268 == 0) || (t269)))))) else (gangwaylaw20_StatSubs.j4 kj9 l0 x3_1 true)))) = some r := H
                                  have A15 := Aside0.mk A150
                                  clear A150
                                  have HC16 := Aside0.mk H
                                  clear H
                                  have hcz17_22 : wc.cell? ⟨gb263, 22, none⟩ = some (.slice A262_22 ((rd_T35 l0 x3_1).f8).length c262_22) := (blk_cell BK263.out 22).trans rfl
                                  go_upto_if 34 with (first | ((with_reducible refine gate_callee (f := 18) rfl ?_); refine goesL_ (some 28) rfl rfl Try.func18 (by kernel_rfl) rfl #[.slice A262_22 ((rd_T35 l0 x3_1).f8).length c262_22] rfl (by (try simp only [List.map_toArray, List.map_cons, List.map_nil]); first | done | rfl | (simp only [List.length_drop, List.length_take]; rfl)) ?_; (with_reducible refine (stat_Subscription.calls kj9 _ _ ((rd_T35 l0 x3_1).f8) t265 t266 t267 t268 t269 t270 _ ?side1 ?side2 A15.out).mono ?_); (case side1 => repeat (first | exact (Kd.C_below HR262_22.out HB.out) | (with_reducible refine Kd.C_alloc ?_ _) | (with_reducible refine Kd.C_drewN ?_ _) | (with_reducible refine Kd.C_drew ?_))); (case side2 => exact HC262_22.out); rintro e w18 ⟨rfl, hb⟩; refine ⟨_, rfl, ?_⟩; have n0_ := Aside0.mk (blk_below (g := gb263) (o := .cells #[.int .i64 ((rd_T35 l0 x3_1).f0.f0), .int .i64 ((rd_T35 l0 x3_1).f0.f1), .int .i64 ((rd_T35 l0 x3_1).f0.f2), .int .i64 ((rd_T35 l0 x3_1).f0.f3), .int .i64 ((rd_T35 l0 x3_1).f0.f4), .int .i64 ((rd_T35 l0 x3_1).f0.f5), .string ((rd_T35 l0 x3_1).f0.f6), .int .i64 ((rd_T35 l0 x3_1).f1.f0), .slice A262_8 ((rd_T35 l0 x3_1).f1.f1).length c262_8, .slice A262_9 ((rd_T35 l0 x3_1).f1.f2).length c262_9, .string ((rd_T35 l0 x3_1).f1.f3), .int .i64 ((rd_T35 l0 x3_1).f1.f4), .int .i64 ((rd_T35 l0 x3_1).f1.f5), .int .i64 ((rd_T35 l0 x3_1).f2), .string ((rd_T35 l0 x3_1).f3), .int .i64 ((rd_T35 l0 x3_1).f4), .int .i64 ((rd_T35 l0 x3_1).f5), .int .i64 ((rd_T35 l0 x3_1).f6), .int .i64 ((rd_T35 l0 x3_1).f7.f0), .int .i64 ((rd_T35 l0 x3_1).f7.f1), .int .i64 ((rd_T35 l0 x3_1).f7.f2), .int .i64 ((rd_T35 l0 x3_1).f7.f3), .slice A262_22 ((rd_T35 l0 x3_1).f8).length c262_22] 35 (0, 0)) (by (with_reducible repeat (first | refine blk_drewN ?_ _ | refine blk_drew ?_ | refine blk_alloc ?_ _)); exact BK263.out) hb); have n1_ := Aside0.mk (below_step (by repeat (first | (with_reducible first | exact HB.out | apply below_alloc | apply pw_below_drewN | apply below_drew1 | refine below_set ?_ GE263.out) | exact HB.out)) hb); clear BK263; clear HB; have BK263 := n0_; have HB := n1_; clear n0_ n1_; (try clear hb); (try clear hb2); (try clear hk); (try clear hi)) | ((with_reducible refine gate_dst (N := 5) rfl ?_); refine box_event ?hg (N := 5) ?hd (cs := #[.int .i64 0, .int .i64 0, .int .i64 0, .int .i64 0, .bool false]) (t := 45) ?hr ?_; (case hd => rfl); (case hg => rfl); (case hr => first | (go_simp; done) | (go_simp; rfl)); intro gb271 hg w19 hbox hb; have n0_ := Aside0.mk (blk_below (g := gb263) (o := .cells #[.int .i64 ((rd_T35 l0 x3_1).f0.f0), .int .i64 ((rd_T35 l0 x3_1).f0.f1), .int .i64 ((rd_T35 l0 x3_1).f0.f2), .int .i64 ((rd_T35 l0 x3_1).f0.f3), .int .i64 ((rd_T35 l0 x3_1).f0.f4), .int .i64 ((rd_T35 l0 x3_1).f0.f5), .string ((rd_T35 l0 x3_1).f0.f6), .int .i64 ((rd_T35 l0 x3_1).f1.f0), .slice A262_8 ((rd_T35 l0 x3_1).f1.f1).length c262_8, .slice A262_9 ((rd_T35 l0 x3_1).f1.f2).length c262_9, .string ((rd_T35 l0 x3_1).f1.f3), .int .i64 ((rd_T35 l0 x3_1).f1.f4), .int .i64 ((rd_T35 l0 x3_1).f1.f5), .int .i64 ((rd_T35 l0 x3_1).f2), .string ((rd_T35 l0 x3_1).f3), .int .i64 ((rd_T35 l0 x3_1).f4), .int .i64 ((rd_T35 l0 x3_1).f5), .int .i64 ((rd_T35 l0 x3_1).f6), .int .i64 ((rd_T35 l0 x3_1).f7.f0), .int .i64 ((rd_T35 l0 x3_1).f7.f1), .int .i64 ((rd_T35 l0 x3_1).f7.f2), .int .i64 ((rd_T35 l0 x3_1).f7.f3), .slice A262_22 ((rd_T35 l0 x3_1).f8).length c262_22] 35 (0, 0)) (by (with_reducible repeat (first | refine blk_drewN ?_ _ | refine blk_drew ?_ | refine blk_alloc ?_ _)); exact BK263.out) hb); have n1_ := Aside0.mk (below_step (by repeat (first | (with_reducible first | exact HB.out | apply below_alloc | apply pw_below_drewN | apply below_drew1 | refine below_set ?_ GE263.out) | exact HB.out)) hb); have n2_ := Aside0.mk (hbox); have n3_ := Aside0.mk ((by rw [hg]; exact (below_size (by repeat (first | (with_reducible first | exact HB.out | apply below_alloc | apply pw_below_drewN | apply below_drew1 | refine below_set ?_ GE263.out) | exact HB.out))) : w.heap.size ≤ gb271)); have n4_ := Aside0.mk ((by rw [hg]; exact (below_size (by repeat (first | (with_reducible first | exact HB.out | apply below_alloc | apply pw_below_drewN | apply below_drew1 | refine below_set ?_ GE263.out) | exact HB.out))) : w.heap.size ≤ gb271)); have n5_ := Aside0.mk ((by rw [hg]; exact Nat.ne_of_lt (blk_lt (g := gb263) (o := .cells #[.int .i64 ((rd_T35 l0 x3_1).f0.f0), .int .i64 ((rd_T35 l0 x3_1).f0.f1), .int .i64 ((rd_T35 l0 x3_1).f0.f2), .int .i64 ((rd_T35 l0 x3_1).f0.f3), .int .i64 ((rd_T35 l0 x3_1).f0.f4), .int .i64 ((rd_T35 l0 x3_1).f0.f5), .string ((rd_T35 l0 x3_1).f0.f6), .int .i64 ((rd_T35 l0 x3_1).f1.f0), .slice A262_8 ((rd_T35 l0 x3_1).f1.f1).length c262_8, .slice A262_9 ((rd_T35 l0 x3_1).f1.f2).length c262_9, .string ((rd_T35 l0 x3_1).f1.f3), .int .i64 ((rd_T35 l0 x3_1).f1.f4), .int .i64 ((rd_T35 l0 x3_1).f1.f5), .int .i64 ((rd_T35 l0 x3_1).f2), .string ((rd_T35 l0 x3_1).f3), .int .i64 ((rd_T35 l0 x3_1).f4), .int .i64 ((rd_T35 l0 x3_1).f5), .int .i64 ((rd_T35 l0 x3_1).f6), .int .i64 ((rd_T35 l0 x3_1).f7.f0), .int .i64 ((rd_T35 l0 x3_1).f7.f1), .int .i64 ((rd_T35 l0 x3_1).f7.f2), .int .i64 ((rd_T35 l0 x3_1).f7.f3), .slice A262_22 ((rd_T35 l0 x3_1).f8).length c262_22] 35 (0, 0)) (by (with_reducible repeat (first | refine blk_drewN ?_ _ | refine blk_drew ?_ | refine blk_alloc ?_ _)); exact BK263.out)) : gb263 ≠ gb271)); have n6_ := Aside0.mk ((by rw [hg]; exact Nat.ne_of_gt (blk_lt (g := gb263) (o := .cells #[.int .i64 ((rd_T35 l0 x3_1).f0.f0), .int .i64 ((rd_T35 l0 x3_1).f0.f1), .int .i64 ((rd_T35 l0 x3_1).f0.f2), .int .i64 ((rd_T35 l0 x3_1).f0.f3), .int .i64 ((rd_T35 l0 x3_1).f0.f4), .int .i64 ((rd_T35 l0 x3_1).f0.f5), .string ((rd_T35 l0 x3_1).f0.f6), .int .i64 ((rd_T35 l0 x3_1).f1.f0), .slice A262_8 ((rd_T35 l0 x3_1).f1.f1).length c262_8, .slice A262_9 ((rd_T35 l0 x3_1).f1.f2).length c262_9, .string ((rd_T35 l0 x3_1).f1.f3), .int .i64 ((rd_T35 l0 x3_1).f1.f4), .int .i64 ((rd_T35 l0 x3_1).f1.f5), .int .i64 ((rd_T35 l0 x3_1).f2), .string ((rd_T35 l0 x3_1).f3), .int .i64 ((rd_T35 l0 x3_1).f4), .int .i64 ((rd_T35 l0 x3_1).f5), .int .i64 ((rd_T35 l0 x3_1).f6), .int .i64 ((rd_T35 l0 x3_1).f7.f0), .int .i64 ((rd_T35 l0 x3_1).f7.f1), .int .i64 ((rd_T35 l0 x3_1).f7.f2), .int .i64 ((rd_T35 l0 x3_1).f7.f3), .slice A262_22 ((rd_T35 l0 x3_1).f8).length c262_22] 35 (0, 0)) (by (with_reducible repeat (first | refine blk_drewN ?_ _ | refine blk_drew ?_ | refine blk_alloc ?_ _)); exact BK263.out)) : gb271 ≠ gb263)); clear BK263; clear HB; have BK263 := n0_; have HB := n1_; have BK271 := n2_; have GW271 := n3_; have GE271 := n4_; have NB263_271 := n5_; have NB271_263 := n6_; clear n0_ n1_ n2_ n3_ n4_ n5_ n6_; clear hb hbox hg) | ((with_reducible refine gate_store (t := 45) (p := 5) rfl ?_); refine Go.Proofs.YthhmnecnoojcpaaO.store_whole ?hg ?hn (ty := 45) (x := ?xs_w20) (y := ?ys_w20) ?ho (g := gb271) ?hx [.int .i64 t265, .int .i64 t266, .int .i64 t267, .int .i64 t268, .bool t269] ?hy BK271.out (by kernel_rfl) rfl rfl ?_; (case ho => rfl); (case hg => rfl); (case hn => rfl); (case hx => rfl); (case hy => rfl); intro w20 hb_ hO_ hB_; have n0_ := Aside0.mk (hb_); have n1_ := Aside0.mk ((hO_ _ NB263_271.out).trans BK263.out); have n2_ := Aside0.mk (hB_ _ _ HB.out GE271.out); clear BK271; clear BK263; clear HB; have BK271 := n0_; have BK263 := n1_; have HB := n2_; clear n0_ n1_ n2_; clear hb_ hO_ hB_; have hnb21 := NB263_271.out; have hnc21 := NB271_263.out; have hcz22_22 : w20.cell? ⟨gb263, 22, none⟩ = some (.slice A262_22 ((rd_T35 l0 x3_1).f8).length c262_22) := (blk_cell BK263.out 22).trans rfl))
                                  (try simp only [Act.put, List.setIfInBounds_toArray, List.set_cons_zero, List.set_cons_succ])
                                  go_cut [] (fun wc => ∃ (kq : Nat), Aside0 (gangwaylaw20_StatSubs.j5 kq l0 x3_1 t270 ((rd_T35 l0 x3_1).f0.f0) ((rd_T35 l0 x3_1).f0.f1) ((rd_T35 l0 x3_1).f0.f2) ((rd_T35 l0 x3_1).f0.f3) ((rd_T35 l0 x3_1).f0.f4) ((rd_T35 l0 x3_1).f0.f5) ((rd_T35 l0 x3_1).f0.f6) ((rd_T35 l0 x3_1).f1.f0) ((rd_T35 l0 x3_1).f1.f1) ((rd_T35 l0 x3_1).f1.f2) ((rd_T35 l0 x3_1).f1.f3) ((rd_T35 l0 x3_1).f1.f4) ((rd_T35 l0 x3_1).f1.f5) ((rd_T35 l0 x3_1).f2) ((rd_T35 l0 x3_1).f3) ((rd_T35 l0 x3_1).f4) ((rd_T35 l0 x3_1).f5) ((rd_T35 l0 x3_1).f6) ((rd_T35 l0 x3_1).f7.f0) ((rd_T35 l0 x3_1).f7.f1) ((rd_T35 l0 x3_1).f7.f2) ((rd_T35 l0 x3_1).f7.f3) ((rd_T35 l0 x3_1).f8) t265 t266 t267 t268 t269 = some r) ∧ Aside0 (kq ≤ kj9) ∧ Aside0 (wc.heap[gb263]? = some (.cells #[.int .i64 ((rd_T35 l0 x3_1).f0.f0), .int .i64 ((rd_T35 l0 x3_1).f0.f1), .int .i64 ((rd_T35 l0 x3_1).f0.f2), .int .i64 ((rd_T35 l0 x3_1).f0.f3), .int .i64 ((rd_T35 l0 x3_1).f0.f4), .int .i64 ((rd_T35 l0 x3_1).f0.f5), .string ((rd_T35 l0 x3_1).f0.f6), .int .i64 ((rd_T35 l0 x3_1).f1.f0), (.slice A262_8 ((rd_T35 l0 x3_1).f1.f1).length c262_8), (.slice A262_9 ((rd_T35 l0 x3_1).f1.f2).length c262_9), .string ((rd_T35 l0 x3_1).f1.f3), .int .i64 ((rd_T35 l0 x3_1).f1.f4), .int .i64 ((rd_T35 l0 x3_1).f1.f5), .int .i64 ((rd_T35 l0 x3_1).f2), .string ((rd_T35 l0 x3_1).f3), .int .i64 ((rd_T35 l0 x3_1).f4), .int .i64 ((rd_T35 l0 x3_1).f5), .int .i64 ((rd_T35 l0 x3_1).f6), .int .i64 ((rd_T35 l0 x3_1).f7.f0), .int .i64 ((rd_T35 l0 x3_1).f7.f1), .int .i64 ((rd_T35 l0 x3_1).f7.f2), .int .i64 ((rd_T35 l0 x3_1).f7.f3), (.slice A262_22 ((rd_T35 l0 x3_1).f8).length c262_22)] 35 (0, 0))) ∧ Aside0 (wc.heap[gb271]? = some (.cells #[.int .i64 t265, .int .i64 t266, .int .i64 t267, .int .i64 t268, .bool t269] 45 (0, 0))) ∧ Aside0 (Below w.heap.size w wc))
                                  case first =>
                                    have H := HC16.out
                                    clear HC16
                                    by_cases c23 : (((rd_T35 l0 x3_1).f8).length : Int) = 48
                                    · rw [if_pos c23] at H
                                      have c23b0 : ((((rd_T35 l0 x3_1).f8).length : Int) == 48) = true := beq_iff_eq.mpr c23
                                      have c23b1 : ((((rd_T35 l0 x3_1).f8).length : Int) != 48) = false := bne_eq_false_iff_eq.mpr c23
                                      clear c23
                                      (first | rw [c23b0] | (simp only [i64_w, i32_w]; rw [c23b0]) | skip)
                                      have H' := Aside0.mk H
                                      clear H
                                      go_wp2
                                      go_meet
                                      case rel => exact ⟨_, H', ⟨by have := HK1.out; have := HJ2.out; have := HJ4.out; have := HJ9.out; first | omega | exact Nat.le_refl _⟩, ⟨by (with_reducible repeat (first | refine blk_drewN ?_ _ | refine blk_drew ?_ | refine blk_alloc ?_ _)); exact BK263.out⟩, ⟨by (with_reducible repeat (first | refine blk_drewN ?_ _ | refine blk_drew ?_ | refine blk_alloc ?_ _)); exact BK271.out⟩, ⟨by repeat (first | (with_reducible first | exact HB.out | apply below_alloc | apply pw_below_drewN | apply below_drew1 | refine below_set ?_ GE263.out | refine below_set ?_ GE271.out) | exact HB.out)⟩⟩
                                    · as_aux_lemma =>
                                        rw [if_neg c23] at H
                                        have c23b0 : ((((rd_T35 l0 x3_1).f8).length : Int) == 48) = false := beq_eq_false_iff_ne.mpr c23
                                        have c23b1 : ((((rd_T35 l0 x3_1).f8).length : Int) != 48) = true := bne_iff_ne.mpr c23
                                        (first | rw [c23b0] | (simp only [i64_w, i32_w]; rw [c23b0]) | skip)
                                        have HC24 := Aside0.mk H
                                        clear H
                                        go_upto_region 9 with (fail)
                                        go_cut [42] (fun v42 wc => ∃ (kq : Nat) (x42_23 : Bool), v42 = .bool x42_23 ∧ Aside0 (gangwaylaw20_StatSubs.j4 kq l0 x3_1 x42_23 = some r) ∧ Aside0 (kq ≤ kj9) ∧ Aside0 (wc.heap[gb263]? = some (.cells #[.int .i64 ((rd_T35 l0 x3_1).f0.f0), .int .i64 ((rd_T35 l0 x3_1).f0.f1), .int .i64 ((rd_T35 l0 x3_1).f0.f2), .int .i64 ((rd_T35 l0 x3_1).f0.f3), .int .i64 ((rd_T35 l0 x3_1).f0.f4), .int .i64 ((rd_T35 l0 x3_1).f0.f5), .string ((rd_T35 l0 x3_1).f0.f6), .int .i64 ((rd_T35 l0 x3_1).f1.f0), (.slice A262_8 ((rd_T35 l0 x3_1).f1.f1).length c262_8), (.slice A262_9 ((rd_T35 l0 x3_1).f1.f2).length c262_9), .string ((rd_T35 l0 x3_1).f1.f3), .int .i64 ((rd_T35 l0 x3_1).f1.f4), .int .i64 ((rd_T35 l0 x3_1).f1.f5), .int .i64 ((rd_T35 l0 x3_1).f2), .string ((rd_T35 l0 x3_1).f3), .int .i64 ((rd_T35 l0 x3_1).f4), .int .i64 ((rd_T35 l0 x3_1).f5), .int .i64 ((rd_T35 l0 x3_1).f6), .int .i64 ((rd_T35 l0 x3_1).f7.f0), .int .i64 ((rd_T35 l0 x3_1).f7.f1), .int .i64 ((rd_T35 l0 x3_1).f7.f2), .int .i64 ((rd_T35 l0 x3_1).f7.f3), (.slice A262_22 ((rd_T35 l0 x3_1).f8).length c262_22)] 35 (0, 0))) ∧ Aside0 (wc.heap[gb271]? = some (.cells #[.int .i64 t265, .int .i64 t266, .int .i64 t267, .int .i64 t268, .bool t269] 45 (0, 0))) ∧ Aside0 (Below w.heap.size w wc))
                                        case first =>
                                          have H := HC24.out
                                          clear HC24
                                          replace H := Option.bind_eq_some_iff.mp H
                                          obtain ⟨t272, A250, H⟩ := H
                                          replace H : (if t272 = 100 then (gangwaylaw20_StatSubs.j4 kj9 l0 x3_1 (!(t265 == 0) || (!(t266 == 0) || (!(t267 == 0) || (!(t268 == 0) || (t269)))))) else (gangwaylaw20_StatSubs.j4 kj9 l0 x3_1 true)) = some r := H
                                          have A25 := Aside0.mk A250
                                          clear A250
                                          by_cases c26 : t272 = 100
                                          · rw [if_pos c26] at H
                                            have c26b0 : (t272 == 100) = true := beq_iff_eq.mpr c26
                                            have c26b1 : (t272 != 100) = false := bne_eq_false_iff_eq.mpr c26
                                            clear c26
                                            (first | rw [c26b0] | (simp only [i64_w, i32_w]; rw [c26b0]) | skip)
                                            have H' := Aside0.mk H
                                            clear H
                                            go_wp2_with (first | ((with_reducible refine gate_callee (f := 19) rfl ?_); refine goesL_ (some 36) rfl rfl Try.func19 (by kernel_rfl) rfl #[.int .i64 t270] rfl (by (try simp only [List.map_toArray, List.map_cons, List.map_nil]); first | done | rfl | (simp only [List.length_drop, List.length_take]; rfl)) ?_; (with_reducible refine (gangwaylaw20_num.calls t270 t272 _ A25.out).mono ?_); rintro e w' ⟨rfl, ⟨nd, rfl⟩⟩; refine ⟨_, rfl, ?_⟩; have hnb27 := NB271_263.out; have hnc27 := NB263_271.out; have hcz28_0 : w20.cell? ⟨gb271, 0, none⟩ = some (.int .i64 t265) := (blk_cell BK271.out 0).trans rfl; have hcz28_1 : w20.cell? ⟨gb271, 1, none⟩ = some (.int .i64 t266) := (blk_cell BK271.out 1).trans rfl; have hcz28_2 : w20.cell? ⟨gb271, 2, none⟩ = some (.int .i64 t267) := (blk_cell BK271.out 2).trans rfl; have hcz28_3 : w20.cell? ⟨gb271, 3, none⟩ = some (.int .i64 t268) := (blk_cell BK271.out 3).trans rfl; have hcz28_4 : w20.cell? ⟨gb271, 4, none⟩ = some (.bool t269) := (blk_cell BK271.out 4).trans rfl; have hfz28_0 := blk_frozen BK271.out 0; have hfz28_1 := blk_frozen BK271.out 1; have hfz28_2 := blk_frozen BK271.out 2; have hfz28_3 := blk_frozen BK271.out 3; have hfz28_4 := blk_frozen BK271.out 4))
                                            go_meet
                                            case rel => exact ⟨_, ((!(t265 == 0) || (!(t266 == 0) || (!(t267 == 0) || (!(t268 == 0) || (t269)))))), (by first | rfl | (simp; done) | (simp [*]; done)), H', ⟨by have := HK1.out; have := HJ2.out; have := HJ4.out; have := HJ9.out; first | omega | exact Nat.le_refl _⟩, ⟨by (with_reducible repeat (first | refine blk_drewN ?_ _ | refine blk_drew ?_ | refine blk_alloc ?_ _)); exact BK263.out⟩, ⟨by (with_reducible repeat (first | refine blk_drewN ?_ _ | refine blk_drew ?_ | refine blk_alloc ?_ _)); exact BK271.out⟩, ⟨by repeat (first | (with_reducible first | exact HB.out | apply below_alloc | apply pw_below_drewN | apply below_drew1 | refine below_set ?_ GE263.out | refine below_set ?_ GE271.out) | exact HB.out)⟩⟩
                                          · rw [if_neg c26] at H
                                            have c26b0 : (t272 == 100) = false := beq_eq_false_iff_ne.mpr c26
                                            have c26b1 : (t272 != 100) = true := bne_iff_ne.mpr c26
                                            (first | rw [c26b0] | (simp only [i64_w, i32_w]; rw [c26b0]) | skip)
                                            have H' := Aside0.mk H
                                            clear H
                                            go_wp2_with (first | ((with_reducible refine gate_callee (f := 19) rfl ?_); refine goesL_ (some 36) rfl rfl Try.func19 (by kernel_rfl) rfl #[.int .i64 t270] rfl (by (try simp only [List.map_toArray, List.map_cons, List.map_nil]); first | done | rfl | (simp only [List.length_drop, List.length_take]; rfl)) ?_; (with_reducible refine (gangwaylaw20_num.calls t270 t272 _ A25.out).mono ?_); rintro e w' ⟨rfl, ⟨nd, rfl⟩⟩; refine ⟨_, rfl, ?_⟩))
                                            go_meet
                                            case rel => exact ⟨_, (true), (by first | rfl | (simp; done) | (simp [*]; done)), H', ⟨by have := HK1.out; have := HJ2.out; have := HJ4.out; have := HJ9.out; first | omega | exact Nat.le_refl _⟩, ⟨by (with_reducible repeat (first | refine blk_drewN ?_ _ | refine blk_drew ?_ | refine blk_alloc ?_ _)); exact BK263.out⟩, ⟨by (with_reducible repeat (first | refine blk_drewN ?_ _ | refine blk_drew ?_ | refine blk_alloc ?_ _)); exact BK271.out⟩, ⟨by repeat (first | (with_reducible first | exact HB.out | apply below_alloc | apply pw_below_drewN | apply below_drew1 | refine below_set ?_ GE263.out | refine below_set ?_ GE271.out) | exact HB.out)⟩⟩
                                        case rest =>
                                          as_aux_lemma =>
                                            clear HC24
                                            try clear c1
                                            try clear c2
                                            try clear p2
                                            try clear q2
                                            try clear hx2
                                            try clear c4
                                            try clear c4b0
                                            try clear c5
                                            try clear c6
                                            try clear c7
                                            try clear c7b0
                                            try clear c8
                                            try clear c8b0
                                            try clear c14
                                            try clear c15
                                            try clear c18
                                            try clear c19
                                            try clear c21
                                            try clear c23
                                            try clear c23b0
                                            try clear c23b1
                                            try clear c26
                                            try clear c26b0
                                            try clear c26b1
                                            try clear p26
                                            try clear q26
                                            try clear hx26
                                            try clear c27
                                            try clear hcz17_22
                                            try clear hcz22_22
                                            try clear hcz28_0
                                            try clear hcz28_1
                                            try clear hcz28_2
                                            try clear hcz28_3
                                            try clear hcz28_4
                                            try clear hfz28_0
                                            try clear hfz28_1
                                            try clear hfz28_2
                                            try clear hfz28_3
                                            try clear hfz28_4
                                            try clear hx262_0
                                            try clear hx262_1
                                            try clear hx262_10
                                            try clear hx262_11
                                            try clear hx262_12
                                            try clear hx262_13
                                            try clear hx262_14
                                            try clear hx262_15
                                            try clear hx262_16
                                            try clear hx262_17
                                            try clear hx262_18
                                            try clear hx262_19
                                            try clear hx262_2
                                            try clear hx262_20
                                            try clear hx262_21
                                            try clear hx262_22
                                            try clear hx262_3
                                            try clear hx262_4
                                            try clear hx262_5
                                            try clear hx262_6
                                            try clear hx262_7
                                            try clear hx262_8
                                            try clear hx262_9
                                            try clear p2
                                            try clear p262
                                            try clear q2
                                            try clear q262
                                            obtain ⟨kq, x42_23, rfl, HA, HJ23, BK263, BK271, HB⟩ := hcut
                                            cases kq with
                                            | zero => exact absurd HA.out (by simp [gangwaylaw20_StatSubs.j4])
                                            | succ kj23 =>
                                              have H := HA.out
                                              clear HA
                                              simp only [gangwaylaw20_StatSubs.j4] at H
                                              by_cases c29 : x42_23 = true
                                              · subst c29
                                                have H1 : (some false) = some r := by rw [if_pos rfl] at H; exact H
                                                clear H
                                                have H := H1
                                                clear H1
                                                obtain rfl := Option.some.inj H
                                                go_wp2
                                                go_ret
                                                exact ⟨by first | rfl | (simp [errW_none, errW_some] <;> rfl) | (simp [*, errW_none, errW_some] <;> rfl), by repeat (first | (with_reducible first | exact HB.out | apply below_alloc | apply pw_below_drewN | apply below_drew1 | refine below_set ?_ GE263.out | refine below_set ?_ GE271.out) | exact HB.out)⟩
                                              · replace c29 := Bool.eq_false_iff.mpr c29
                                                subst c29
                                                have H1 : (gangwaylaw20_StatSubs.l0 kj23 l0 (wrap64 (x3_1 + 1))) = some r := by rw [if_neg (show ¬ (false = true) by decide)] at H; exact H
                                                clear H
                                                have H := H1
                                                clear H1
                                                have H' := Aside0.mk H
                                                clear H
                                                go_wp2
                                                go_roundg kj23
                                                case measure => have := HK1.out; have := HJ2.out; have := HJ4.out; have := HJ9.out; have := HJ23.out; omega
                                                case rel => exact ⟨(wrap64 (x3_1 + 1)), (by first | rfl | (simp; done) | (simp [*]; done)), H', ⟨by have := HK1.out; have := HJ2.out; have := HJ4.out; have := HJ9.out; have := HJ23.out; omega⟩, ⟨by repeat (first | (with_reducible first | exact HB.out | apply below_alloc | apply pw_below_drewN | apply below_drew1 | refine below_set ?_ GE263.out | refine below_set ?_ GE271.out) | exact HB.out)⟩⟩
                                  case rest =>
                                    as_aux_lemma =>
                                      clear HC16
                                      try clear c1
                                      try clear c2
                                      try clear p2
                                      try clear q2
                                      try clear hx2
                                      try clear c4
                                      try clear c4b0
                                      try clear c5
                                      try clear c6
                                      try clear p6
                                      try clear c7
                                      try clear c7b0
                                      try clear c8
                                      try clear c8b0
                                      try clear c14
                                      try clear c15
                                      try clear c18
                                      try clear c19
                                      try clear c21
                                      try clear c23
                                      try clear c23b0
                                      try clear c23b1
                                      try clear c26
                                      try clear c26b0
                                      try clear c26b1
                                      try clear p26
                                      try clear q26
                                      try clear hx26
                                      try clear c27
                                      try clear c29
                                      try clear hcz17_22
                                      try clear hcz22_22
                                      try clear hcz28_0
                                      try clear hcz28_1
                                      try clear hcz28_2
                                      try clear hcz28_3
                                      try clear hcz28_4
                                      try clear hfz28_0
                                      try clear hfz28_1
                                      try clear hfz28_2
                                      try clear hfz28_3
                                      try clear hfz28_4
                                      try clear hx262_0
                                      try clear hx262_1
                                      try clear hx262_10
                                      try clear hx262_11
                                      try clear hx262_12
                                      try clear hx262_13
                                      try clear hx262_14
                                      try clear hx262_15
                                      try clear hx262_16
                                      try clear hx262_17
                                      try clear hx262_18
                                      try clear hx262_19
                                      try clear hx262_2
                                      try clear hx262_20
                                      try clear hx262_21
                                      try clear hx262_22
                                      try clear hx262_3
                                      try clear hx262_4
                                      try clear hx262_5
                                      try clear hx262_6
                                      try clear hx262_7
                                      try clear hx262_8
                                      try clear hx262_9
                                      try clear p2
                                      try clear p26
                                      try clear p262
                                      try clear q2
                                      try clear q26
                                      try clear q262
                                      obtain ⟨kq, HA, HJ15, BK263, BK271, HB⟩ := hcut
                                      cases kq with
                                      | zero => exact absurd HA.out (by simp [gangwaylaw20_StatSubs.j5])
                                      | succ kj15 =>
                                        have H := HA.out
                                        clear HA
                                        simp only [gangwaylaw20_StatSubs.j5] at H
                                        replace H := Option.bind_eq_some_iff.mp H
                                        obtain ⟨⟨t273, t274, t275, t276, t277, t278⟩, A300, H⟩ := H
                                        replace H : ((gangwaylaw20_num.f t270).bind fun t280 => (if t280 = t278 then (gangwaylaw20_StatSubs.j6 kj15 l0 x3_1 (!(t265 == t273) || (!(t266 == t274) || (!(t267 == t275) || (!(t268 == t276) || (!(t269 == t277))))))) else (gangwaylaw20_StatSubs.j6 kj15 l0 x3_1 true))) = some r := H
                                        have A30 := Aside0.mk A300
                                        clear A300
                                        have HC31 := Aside0.mk H
                                        clear H
                                        have hnb32 := NB263_271.out
                                        have hnc32 := NB271_263.out
                                        have hcz33_22 : wc.cell? ⟨gb263, 22, none⟩ = some (.slice A262_22 ((rd_T35 l0 x3_1).f8).length c262_22) := (blk_cell BK263.out 22).trans rfl
                                        go_upto_region 12 with (first | ((with_reducible refine gate_callee (f := 20) rfl ?_); refine goesL_ (some 46) rfl rfl Try.func20 (by kernel_rfl) rfl #[.slice A262_22 ((rd_T35 l0 x3_1).f8).length c262_22] rfl (by (try simp only [List.map_toArray, List.map_cons, List.map_nil]); first | done | rfl | (simp only [List.length_drop, List.length_take]; rfl)) ?_; (with_reducible refine (gangwayref20_Subscription.calls kj15 _ _ ((rd_T35 l0 x3_1).f8) t273 t274 t275 t276 t277 t278 _ ?side1 ?side2 A30.out).mono ?_); (case side1 => repeat (first | exact (Kd.C_below HR262_22.out HB.out) | (with_reducible refine Kd.C_alloc ?_ _) | (with_reducible refine Kd.C_drewN ?_ _) | (with_reducible refine Kd.C_drew ?_))); (case side2 => exact HC262_22.out); rintro e w34 ⟨rfl, hb⟩; refine ⟨_, rfl, ?_⟩; have n0_ := Aside0.mk (blk_below (g := gb263) (o := .cells #[.int .i64 ((rd_T35 l0 x3_1).f0.f0), .int .i64 ((rd_T35 l0 x3_1).f0.f1), .int .i64 ((rd_T35 l0 x3_1).f0.f2), .int .i64 ((rd_T35 l0 x3_1).f0.f3), .int .i64 ((rd_T35 l0 x3_1).f0.f4), .int .i64 ((rd_T35 l0 x3_1).f0.f5), .string ((rd_T35 l0 x3_1).f0.f6), .int .i64 ((rd_T35 l0 x3_1).f1.f0), .slice A262_8 ((rd_T35 l0 x3_1).f1.f1).length c262_8, .slice A262_9 ((rd_T35 l0 x3_1).f1.f2).length c262_9, .string ((rd_T35 l0 x3_1).f1.f3), .int .i64 ((rd_T35 l0 x3_1).f1.f4), .int .i64 ((rd_T35 l0 x3_1).f1.f5), .int .i64 ((rd_T35 l0 x3_1).f2), .string ((rd_T35 l0 x3_1).f3), .int .i64 ((rd_T35 l0 x3_1).f4), .int .i64 ((rd_T35 l0 x3_1).f5), .int .i64 ((rd_T35 l0 x3_1).f6), .int .i64 ((rd_T35 l0 x3_1).f7.f0), .int .i64 ((rd_T35 l0 x3_1).f7.f1), .int .i64 ((rd_T35 l0 x3_1).f7.f2), .int .i64 ((rd_T35 l0 x3_1).f7.f3), .slice A262_22 ((rd_T35 l0 x3_1).f8).length c262_22] 35 (0, 0)) (by (with_reducible repeat (first | refine blk_drewN ?_ _ | refine blk_drew ?_ | refine blk_alloc ?_ _)); exact BK263.out) hb); have n1_ := Aside0.mk (blk_below (g := gb271) (o := .cells #[.int .i64 t265, .int .i64 t266, .int .i64 t267, .int .i64 t268, .bool t269] 45 (0, 0)) (by (with_reducible repeat (first | refine blk_drewN ?_ _ | refine blk_drew ?_ | refine blk_alloc ?_ _)); exact BK271.out) hb); have n2_ := Aside0.mk (below_step (by repeat (first | (with_reducible first | exact HB.out | apply below_alloc | apply pw_below_drewN | apply below_drew1 | refine below_set ?_ GE263.out | refine below_set ?_ GE271.out) | exact HB.out)) hb); clear BK263; clear BK271; clear HB; have BK263 := n0_; have BK271 := n1_; have HB := n2_; clear n0_ n1_ n2_; (try clear hb); (try clear hb2); (try clear hk); (try clear hi)) | ((with_reducible refine gate_dst (N := 7) rfl ?_); refine box_event ?hg (N := 7) ?hd (cs := #[.int .i64 0, .int .i64 0, .int .i64 0, .int .i64 0, .bool false]) (t := 45) ?hr ?_; (case hd => rfl); (case hg => rfl); (case hr => first | (go_simp; done) | (go_simp; rfl)); intro gb279 hg w35 hbox hb; have n0_ := Aside0.mk (blk_below (g := gb263) (o := .cells #[.int .i64 ((rd_T35 l0 x3_1).f0.f0), .int .i64 ((rd_T35 l0 x3_1).f0.f1), .int .i64 ((rd_T35 l0 x3_1).f0.f2), .int .i64 ((rd_T35 l0 x3_1).f0.f3), .int .i64 ((rd_T35 l0 x3_1).f0.f4), .int .i64 ((rd_T35 l0 x3_1).f0.f5), .string ((rd_T35 l0 x3_1).f0.f6), .int .i64 ((rd_T35 l0 x3_1).f1.f0), .slice A262_8 ((rd_T35 l0 x3_1).f1.f1).length c262_8, .slice A262_9 ((rd_T35 l0 x3_1).f1.f2).length c262_9, .string ((rd_T35 l0 x3_1).f1.f3), .int .i64 ((rd_T35 l0 x3_1).f1.f4), .int .i64 ((rd_T35 l0 x3_1).f1.f5), .int .i64 ((rd_T35 l0 x3_1).f2), .string ((rd_T35 l0 x3_1).f3), .int .i64 ((rd_T35 l0 x3_1).f4), .int .i64 ((rd_T35 l0 x3_1).f5), .int .i64 ((rd_T35 l0 x3_1).f6), .int .i64 ((rd_T35 l0 x3_1).f7.f0), .int .i64 ((rd_T35 l0 x3_1).f7.f1), .int .i64 ((rd_T35 l0 x3_1).f7.f2), .int .i64 ((rd_T35 l0 x3_1).f7.f3), .slice A262_22 ((rd_T35 l0 x3_1).f8).length c262_22] 35 (0, 0)) (by (with_reducible repeat (first | refine blk_drewN ?_ _ | refine blk_drew ?_ | refine blk_alloc ?_ _)); exact BK263.out) hb); have n1_ := Aside0.mk (blk_below (g := gb271) (o := .cells #[.int .i64 t265, .int .i64 t266, .int .i64 t267, .int .i64 t268, .bool t269] 45 (0, 0)) (by (with_reducible repeat (first | refine blk_drewN ?_ _ | refine blk_drew ?_ | refine blk_alloc ?_ _)); exact BK271.out) hb); have n2_ := Aside0.mk (below_step (by repeat (first | (with_reducible first | exact HB.out | apply below_alloc | apply pw_below_drewN | apply below_drew1 | refine below_set ?_ GE263.out | refine below_set ?_ GE271.out) | exact HB.out)) hb); have n3_ := Aside0.mk (hbox); have n4_ := Aside0.mk ((by rw [hg]; exact (below_size (by repeat (first | (with_reducible first | exact HB.out | apply below_alloc | apply pw_below_drewN | apply below_drew1 | refine below_set ?_ GE263.out | refine below_set ?_ GE271.out) | exact HB.out))) : w.heap.size ≤ gb279)); have n5_ := Aside0.mk ((by rw [hg]; exact (below_size (by repeat (first | (with_reducible first | exact HB.out | apply below_alloc | apply pw_below_drewN | apply below_drew1 | refine below_set ?_ GE263.out | refine below_set ?_ GE271.out) | exact HB.out))) : w.heap.size ≤ gb279)); have n6_ := Aside0.mk ((by rw [hg]; exact Nat.ne_of_lt (blk_lt (g := gb263) (o := .cells #[.int .i64 ((rd_T35 l0 x3_1).f0.f0), .int .i64 ((rd_T35 l0 x3_1).f0.f1), .int .i64 ((rd_T35 l0 x3_1).f0.f2), .int .i64 ((rd_T35 l0 x3_1).f0.f3), .int .i64 ((rd_T35 l0 x3_1).f0.f4), .int .i64 ((rd_T35 l0 x3_1).f0.f5), .string ((rd_T35 l0 x3_1).f0.f6), .int .i64 ((rd_T35 l0 x3_1).f1.f0), .slice A262_8 ((rd_T35 l0 x3_1).f1.f1).length c262_8, .slice A262_9 ((rd_T35 l0 x3_1).f1.f2).length c262_9, .string ((rd_T35 l0 x3_1).f1.f3), .int .i64 ((rd_T35 l0 x3_1).f1.f4), .int .i64 ((rd_T35 l0 x3_1).f1.f5), .int .i64 ((rd_T35 l0 x3_1).f2), .string ((rd_T35 l0 x3_1).f3), .int .i64 ((rd_T35 l0 x3_1).f4), .int .i64 ((rd_T35 l0 x3_1).f5), .int .i64 ((rd_T35 l0 x3_1).f6), .int .i64 ((rd_T35 l0 x3_1).f7.f0), .int .i64 ((rd_T35 l0 x3_1).f7.f1), .int .i64 ((rd_T35 l0 x3_1).f7.f2), .int .i64 ((rd_T35 l0 x3_1).f7.f3), .slice A262_22 ((rd_T35 l0 x3_1).f8).length c262_22] 35 (0, 0)) (by (with_reducible repeat (first | refine blk_drewN ?_ _ | refine blk_drew ?_ | refine blk_alloc ?_ _)); exact BK263.out)) : gb263 ≠ gb279)); have n7_ := Aside0.mk ((by rw [hg]; exact Nat.ne_of_gt (blk_lt (g := gb263) (o := .cells #[.int .i64 ((rd_T35 l0 x3_1).f0.f0), .int .i64 ((rd_T35 l0 x3_1).f0.f1), .int .i64 ((rd_T35 l0 x3_1).f0.f2), .int .i64 ((rd_T35 l0 x3_1).f0.f3), .int .i64 ((rd_T35 l0 x3_1).f0.f4), .int .i64 ((rd_T35 l0 x3_1).f0.f5), .string ((rd_T35 l0 x3_1).f0.f6), .int .i64 ((rd_T35 l0 x3_1).f1.f0), .slice A262_8 ((rd_T35 l0 x3_1).f1.f1).length c262_8, .slice A262_9 ((rd_T35 l0 x3_1).f1.f2).length c262_9, .string ((rd_T35 l0 x3_1).f1.f3), .int .i64 ((rd_T35 l0 x3_1).f1.f4), .int .i64 ((rd_T35 l0 x3_1).f1.f5), .int .i64 ((rd_T35 l0 x3_1).f2), .string ((rd_T35 l0 x3_1).f3), .int .i64 ((rd_T35 l0 x3_1).f4), .int .i64 ((rd_T35 l0 x3_1).f5), .int .i64 ((rd_T35 l0 x3_1).f6), .int .i64 ((rd_T35 l0 x3_1).f7.f0), .int .i64 ((rd_T35 l0 x3_1).f7.f1), .int .i64 ((rd_T35 l0 x3_1).f7.f2), .int .i64 ((rd_T35 l0 x3_1).f7.f3), .slice A262_22 ((rd_T35 l0 x3_1).f8).length c262_22] 35 (0, 0)) (by (with_reducible repeat (first | refine blk_drewN ?_ _ | refine blk_drew ?_ | refine blk_alloc ?_ _)); exact BK263.out)) : gb279 ≠ gb263)); have n8_ := Aside0.mk ((by rw [hg]; exact Nat.ne_of_lt (blk_lt (g := gb271) (o := .cells #[.int .i64 t265, .int .i64 t266, .int .i64 t267, .int .i64 t268, .bool t269] 45 (0, 0)) (by (with_reducible repeat (first | refine blk_drewN ?_ _ | refine blk_drew ?_ | refine blk_alloc ?_ _)); exact BK271.out)) : gb271 ≠ gb279)); have n9_ := Aside0.mk ((by rw [hg]; exact Nat.ne_of_gt (blk_lt (g := gb271) (o := .cells #[.int .i64 t265, .int .i64 t266, .int .i64 t267, .int .i64 t268, .bool t269] 45 (0, 0)) (by (with_reducible repeat (first | refine blk_drewN ?_ _ | refine blk_drew ?_ | refine blk_alloc ?_ _)); exact BK271.out)) : gb279 ≠ gb271)); clear BK263; clear BK271; clear HB; have BK263 := n0_; have BK271 := n1_; have HB := n2_; have BK279 := n3_; have GW279 := n4_; have GE279 := n5_; have NB263_279 := n6_; have NB279_263 := n7_; have NB271_279 := n8_; have NB279_271 := n9_; clear n0_ n1_ n2_ n3_ n4_ n5_ n6_ n7_ n8_ n9_; clear hb hbox hg) | ((with_reducible refine gate_store (t := 45) (p := 7) rfl ?_); refine Go.Proofs.YthhmnecnoojcpaaO.store_whole ?hg ?hn (ty := 45) (x := ?xs_w36) (y := ?ys_w36) ?ho (g := gb279) ?hx [.int .i64 t273, .int .i64 t274, .int .i64 t275, .int .i64 t276, .bool t277] ?hy BK279.out (by kernel_rfl) rfl rfl ?_; (case ho => rfl); (case hg => rfl); (case hn => rfl); (case hx => rfl); (case hy => rfl); intro w36 hb_ hO_ hB_; have n0_ := Aside0.mk (hb_); have n1_ := Aside0.mk ((hO_ _ NB263_279.out).trans BK263.out); have n2_ := Aside0.mk ((hO_ _ NB271_279.out).trans BK271.out); have n3_ := Aside0.mk (hB_ _ _ HB.out GE279.out); clear BK279; clear BK263; clear BK271; clear HB; have BK279 := n0_; have BK263 := n1_; have BK271 := n2_; have HB := n3_; clear n0_ n1_ n2_ n3_; clear hb_ hO_ hB_))
                                        (try simp only [Act.put, List.setIfInBounds_toArray, List.set_cons_zero, List.set_cons_succ])
                                        go_cut [57] (fun v57 wc => ∃ (kq : Nat) (x57_30 : Bool), v57 = .bool x57_30 ∧ Aside0 (gangwaylaw20_StatSubs.j6 kq l0 x3_1 x57_30 = some r) ∧ Aside0 (kq ≤ kj15) ∧ Aside0 (wc.heap[gb263]? = some (.cells #[.int .i64 ((rd_T35 l0 x3_1).f0.f0), .int .i64 ((rd_T35 l0 x3_1).f0.f1), .int .i64 ((rd_T35 l0 x3_1).f0.f2), .int .i64 ((rd_T35 l0 x3_1).f0.f3), .int .i64 ((rd_T35 l0 x3_1).f0.f4), .int .i64 ((rd_T35 l0 x3_1).f0.f5), .string ((rd_T35 l0 x3_1).f0.f6), .int .i64 ((rd_T35 l0 x3_1).f1.f0), (.slice A262_8 ((rd_T35 l0 x3_1).f1.f1).length c262_8), (.slice A262_9 ((rd_T35 l0 x3_1).f1.f2).length c262_9), .string ((rd_T35 l0 x3_1).f1.f3), .int .i64 ((rd_T35 l0 x3_1).f1.f4), .int .i64 ((rd_T35 l0 x3_1).f1.f5), .int .i64 ((rd_T35 l0 x3_1).f2), .string ((rd_T35 l0 x3_1).f3), .int .i64 ((rd_T35 l0 x3_1).f4), .int .i64 ((rd_T35 l0 x3_1).f5), .int .i64 ((rd_T35 l0 x3_1).f6), .int .i64 ((rd_T35 l0 x3_1).f7.f0), .int .i64 ((rd_T35 l0 x3_1).f7.f1), .int .i64 ((rd_T35 l0 x3_1).f7.f2), .int .i64 ((rd_T35 l0 x3_1).f7.f3), (.slice A262_22 ((rd_T35 l0 x3_1).f8).length c262_22)] 35 (0, 0))) ∧ Aside0 (wc.heap[gb271]? = some (.cells #[.int .i64 t265, .int .i64 t266, .int .i64 t267, .int .i64 t268, .bool t269] 45 (0, 0))) ∧ Aside0 (wc.heap[gb279]? = some (.cells #[.int .i64 t273, .int .i64 t274, .int .i64 t275, .int .i64 t276, .bool t277] 45 (0, 0))) ∧ Aside0 (Below w.heap.size w wc))
                                        case first =>
                                          have H := HC31.out
                                          clear HC31
                                          replace H := Option.bind_eq_some_iff.mp H
                                          obtain ⟨t280, A370, H⟩ := H
                                          replace H : (if t280 = t278 then (gangwaylaw20_StatSubs.j6 kj15 l0 x3_1 (!(t265 == t273) || (!(t266 == t274) || (!(t267 == t275) || (!(t268 == t276) || (!(t269 == t277))))))) else (gangwaylaw20_StatSubs.j6 kj15 l0 x3_1 true)) = some r := H
                                          have A37 := Aside0.mk A370
                                          clear A370
                                          by_cases c38 : t280 = t278
                                          · rw [if_pos c38] at H
                                            have c38b0 : (t280 == t278) = true := beq_iff_eq.mpr c38
                                            have c38b1 : (t280 != t278) = false := bne_eq_false_iff_eq.mpr c38
                                            clear c38
                                            (first | rw [c38b0] | (simp only [i64_w, i32_w]; rw [c38b0]) | skip)
                                            have H' := Aside0.mk H
                                            clear H
                                            go_wp2_with (first | ((with_reducible refine gate_callee (f := 19) rfl ?_); refine goesL_ (some 50) rfl rfl Try.func19 (by kernel_rfl) rfl #[.int .i64 t270] rfl (by (try simp only [List.map_toArray, List.map_cons, List.map_nil]); first | done | rfl | (simp only [List.length_drop, List.length_take]; rfl)) ?_; (with_reducible refine (gangwaylaw20_num.calls t270 t280 _ A37.out).mono ?_); rintro e w' ⟨rfl, ⟨nd, rfl⟩⟩; refine ⟨_, rfl, ?_⟩; have hnb39 := NB271_263.out; have hnc39 := NB263_271.out; have hnb40 := NB271_279.out; have hnc40 := NB279_271.out; have hcz41_0 : w36.cell? ⟨gb271, 0, none⟩ = some (.int .i64 t265) := (blk_cell BK271.out 0).trans rfl; have hcz41_1 : w36.cell? ⟨gb271, 1, none⟩ = some (.int .i64 t266) := (blk_cell BK271.out 1).trans rfl; have hcz41_2 : w36.cell? ⟨gb271, 2, none⟩ = some (.int .i64 t267) := (blk_cell BK271.out 2).trans rfl; have hcz41_3 : w36.cell? ⟨gb271, 3, none⟩ = some (.int .i64 t268) := (blk_cell BK271.out 3).trans rfl; have hcz41_4 : w36.cell? ⟨gb271, 4, none⟩ = some (.bool t269) := (blk_cell BK271.out 4).trans rfl; have hfz41_0 := blk_frozen BK271.out 0; have hfz41_1 := blk_frozen BK271.out 1; have hfz41_2 := blk_frozen BK271.out 2; have hfz41_3 := blk_frozen BK271.out 3; have hfz41_4 := blk_frozen BK271.out 4; have hnb42 := NB279_263.out; have hnc42 := NB263_279.out; have hcz43_0 : w36.cell? ⟨gb279, 0, none⟩ = some (.int .i64 t273) := (blk_cell BK279.out 0).trans rfl; have hcz43_1 : w36.cell? ⟨gb279, 1, none⟩ = some (.int .i64 t274) := (blk_cell BK279.out 1).trans rfl; have hcz43_2 : w36.cell? ⟨gb279, 2, none⟩ = some (.int .i64 t275) := (blk_cell BK279.out 2).trans rfl; have hcz43_3 : w36.cell? ⟨gb279, 3, none⟩ = some (.int .i64 t276) := (blk_cell BK279.out 3).trans rfl; have hcz43_4 : w36.cell? ⟨gb279, 4, none⟩ = some (.bool t277) := (blk_cell BK279.out 4).trans rfl; have hfz43_0 := blk_frozen BK279.out 0; have hfz43_1 := blk_frozen BK279.out 1; have hfz43_2 := blk_frozen BK279.out 2; have hfz43_3 := blk_frozen BK279.out 3; have hfz43_4 := blk_frozen BK279.out 4))
                                            go_meet
                                            case rel => exact ⟨_, ((!(t265 == t273) || (!(t266 == t274) || (!(t267 == t275) || (!(t268 == t276) || (!(t269 == t277))))))), (by first | rfl | (simp; done) | (simp [*]; done)), H', ⟨by have := HK1.out; have := HJ2.out; have := HJ4.out; have := HJ9.out; have := HJ15.out; first | omega | exact Nat.le_refl _⟩, ⟨by (with_reducible repeat (first | refine blk_drewN ?_ _ | refine blk_drew ?_ | refine blk_alloc ?_ _)); exact BK263.out⟩, ⟨by (with_reducible repeat (first | refine blk_drewN ?_ _ | refine blk_drew ?_ | refine blk_alloc ?_ _)); exact BK271.out⟩, ⟨by (with_reducible repeat (first | refine blk_drewN ?_ _ | refine blk_drew ?_ | refine blk_alloc ?_ _)); exact BK279.out⟩, ⟨by repeat (first | (with_reducible first | exact HB.out | apply below_alloc | apply pw_below_drewN | apply below_drew1 | refine below_set ?_ GE263.out | refine below_set ?_ GE271.out | refine below_set ?_ GE279.out) | exact HB.out)⟩⟩
                                          · rw [if_neg c38] at H
                                            have c38b0 : (t280 == t278) = false := beq_eq_false_iff_ne.mpr c38
                                            have c38b1 : (t280 != t278) = true := bne_iff_ne.mpr c38
                                            (first | rw [c38b0] | (simp only [i64_w, i32_w]; rw [c38b0]) | skip)
                                            have H' := Aside0.mk H
                                            clear H
                                            go_wp2_with (first | ((with_reducible refine gate_callee (f := 19) rfl ?_); refine goesL_ (some 50) rfl rfl Try.func19 (by kernel_rfl) rfl #[.int .i64 t270] rfl (by (try simp only [List.map_toArray, List.map_cons, List.map_nil]); first | done | rfl | (simp only [List.length_drop, List.length_take]; rfl)) ?_; (with_reducible refine (gangwaylaw20_num.calls t270 t280 _ A37.out).mono ?_); rintro e w' ⟨rfl, ⟨nd, rfl⟩⟩; refine ⟨_, rfl, ?_⟩))
                                            go_meet
                                            case rel => exact ⟨_, (true), (by first | rfl | (simp; done) | (simp [*]; done)), H', ⟨by have := HK1.out; have := HJ2.out; have := HJ4.out; have := HJ9.out; have := HJ15.out; first | omega | exact Nat.le_refl _⟩, ⟨by (with_reducible repeat (first | refine blk_drewN ?_ _ | refine blk_drew ?_ | refine blk_alloc ?_ _)); exact BK263.out⟩, ⟨by (with_reducible repeat (first | refine blk_drewN ?_ _ | refine blk_drew ?_ | refine blk_alloc ?_ _)); exact BK271.out⟩, ⟨by (with_reducible repeat (first | refine blk_drewN ?_ _ | refine blk_drew ?_ | refine blk_alloc ?_ _)); exact BK279.out⟩, ⟨by repeat (first | (with_reducible first | exact HB.out | apply below_alloc | apply pw_below_drewN | apply below_drew1 | refine below_set ?_ GE263.out | refine below_set ?_ GE271.out | refine below_set ?_ GE279.out) | exact HB.out)⟩⟩
                                        case rest =>
                                          as_aux_lemma =>
                                            clear HC31
                                            try clear c1
                                            try clear c2
                                            try clear p2
                                            try clear q2
                                            try clear hx2
                                            try clear c3
                                            try clear c4
                                            try clear c4b0
                                            try clear c5
                                            try clear c6
                                            try clear p6
                                            try clear c7
                                            try clear c7b0
                                            try clear c8
                                            try clear c8b0
                                            try clear c14
                                            try clear c15
                                            try clear c18
                                            try clear c19
                                            try clear c20
                                            try clear c21
                                            try clear c23
                                            try clear c23b0
                                            try clear c23b1
                                            try clear c26
                                            try clear c26b0
                                            try clear c26b1
                                            try clear p26
                                            try clear q26
                                            try clear hx26
                                            try clear c27
                                            try clear c29
                                            try clear c32
                                            try clear c38
                                            try clear c38b0
                                            try clear c38b1
                                            try clear c39
                                            try clear c40
                                            try clear c42
                                            try clear hcz17_22
                                            try clear hcz22_22
                                            try clear hcz28_0
                                            try clear hcz28_1
                                            try clear hcz28_2
                                            try clear hcz28_3
                                            try clear hcz28_4
                                            try clear hcz33_22
                                            try clear hcz41_0
                                            try clear hcz41_1
                                            try clear hcz41_2
                                            try clear hcz41_3
                                            try clear hcz41_4
                                            try clear hcz43_0
                                            try clear hcz43_1
                                            try clear hcz43_2
                                            try clear hcz43_3
                                            try clear hcz43_4
                                            try clear hfz28_0
                                            try clear hfz28_1
                                            try clear hfz28_2
                                            try clear hfz28_3
                                            try clear hfz28_4
                                            try clear hfz41_0
                                            try clear hfz41_1
                                            try clear hfz41_2
                                            try clear hfz41_3
                                            try clear hfz41_4
                                            try clear hfz43_0
                                            try clear hfz43_1
                                            try clear hfz43_2
                                            try clear hfz43_3
                                            try clear hfz43_4
                                            try clear hx262_0
                                            try clear hx262_1
                                            try clear hx262_10
                                            try clear hx262_11
                                            try clear hx262_12
                                            try clear hx262_13
                                            try clear hx262_14
                                            try clear hx262_15
                                            try clear hx262_16
                                            try clear hx262_17
                                            try clear hx262_18
                                            try clear hx262_19
                                            try clear hx262_2
                                            try clear hx262_20
                                            try clear hx262_21
                                            try clear hx262_22
                                            try clear hx262_3
                                            try clear hx262_4
                                            try clear hx262_5
                                            try clear hx262_6
                                            try clear hx262_7
                                            try clear hx262_8
                                            try clear hx262_9
                                            try clear p2
                                            try clear p26
                                            try clear p262
                                            try clear p6
                                            try clear q2
                                            try clear q26
                                            try clear q262
                                            obtain ⟨kq, x57_30, rfl, HA, HJ30, BK263, BK271, BK279, HB⟩ := hcut
                                            cases kq with
                                            | zero => exact absurd HA.out (by simp [gangwaylaw20_StatSubs.j6])
                                            | succ kj30 =>
                                              have H := HA.out
                                              clear HA
                                              simp only [gangwaylaw20_StatSubs.j6] at H
                                              by_cases c44 : x57_30 = true
                                              · subst c44
                                                have H1 : (some false) = some r := by rw [if_pos rfl] at H; exact H
                                                clear H
                                                have H := H1
                                                clear H1
                                                obtain rfl := Option.some.inj H
                                                go_wp2
                                                go_ret
                                                exact ⟨by first | rfl | (simp [errW_none, errW_some] <;> rfl) | (simp [*, errW_none, errW_some] <;> rfl), by repeat (first | (with_reducible first | exact HB.out | apply below_alloc | apply pw_below_drewN | apply below_drew1 | refine below_set ?_ GE263.out | refine below_set ?_ GE271.out | refine below_set ?_ GE279.out) | exact HB.out)⟩
                                              · replace c44 := Bool.eq_false_iff.mpr c44
                                                subst c44
                                                have H1 : (gangwaylaw20_StatSubs.l0 kj30 l0 (wrap64 (x3_1 + 1))) = some r := by rw [if_neg (show ¬ (false = true) by decide)] at H; exact H
                                                clear H
                                                have H := H1
                                                clear H1
                                                have H' := Aside0.mk H
                                                clear H
                                                go_wp2
                                                go_roundg kj30
                                                case measure => have := HK1.out; have := HJ2.out; have := HJ4.out; have := HJ9.out; have := HJ15.out; have := HJ30.out; omega
                                                case rel => exact ⟨(wrap64 (x3_1 + 1)), (by first | rfl | (simp; done) | (simp [*]; done)), H', ⟨by have := HK1.out; have := HJ2.out; have := HJ4.out; have := HJ9.out; have := HJ15.out; have := HJ30.out; omega⟩, ⟨by repeat (first | (with_reducible first | exact HB.out | apply below_alloc | apply pw_below_drewN | apply below_drew1 | refine below_set ?_ GE263.out | refine below_set ?_ GE271.out | refine below_set ?_ GE279.out) | exact HB.out)⟩⟩
                        · rw [if_neg c8] at H
                          exact absurd H (by simp)
                    · rw [if_neg c7] at H
                      exact absurd H (by simp)
  case rest =>
    as_aux_lemma =>
      clear HC2
      try clear c1
      try clear c2
      try clear p2
      try clear q2
      try clear hx2
      try clear c3
      try clear c4
      try clear c4b0
      try clear c5
      try clear c6
      try clear p6
      try clear c7
      try clear c7b0
      try clear c8
      try clear c8b0
      try clear c14
      try clear c15
      try clear c18
      try clear c19
      try clear c20
      try clear c21
      try clear c23
      try clear c23b0
      try clear c23b1
      try clear c26
      try clear c26b0
      try clear c26b1
      try clear p26
      try clear q26
      try clear hx26
      try clear c27
      try clear c29
      try clear c32
      try clear c38
      try clear c38b0
      try clear c38b1
      try clear c39
      try clear c40
      try clear c42
      try clear c44
      try clear hcz17_22
      try clear hcz22_22
      try clear hcz28_0
      try clear hcz28_1
      try clear hcz28_2
      try clear hcz28_3
      try clear hcz28_4
      try clear hcz33_22
      try clear hcz41_0
      try clear hcz41_1
      try clear hcz41_2
      try clear hcz41_3
      try clear hcz41_4
      try clear hcz43_0
      try clear hcz43_1
      try clear hcz43_2
      try clear hcz43_3
      try clear hcz43_4
      try clear hfz28_0
      try clear hfz28_1
      try clear hfz28_2
      try clear hfz28_3
      try clear hfz28_4
      try clear hfz41_0
      try clear hfz41_1
      try clear hfz41_2
      try clear hfz41_3
      try clear hfz41_4
      try clear hfz43_0
      try clear hfz43_1
      try clear hfz43_2
      try clear hfz43_3
      try clear hfz43_4
      try clear hx262_0
      try clear hx262_1
      try clear hx262_10
      try clear hx262_11
      try clear hx262_12
      try clear hx262_13
      try clear hx262_14
      try clear hx262_15
      try clear hx262_16
      try clear hx262_17
      try clear hx262_18
      try clear hx262_19
      try clear hx262_2
      try clear hx262_20
      try clear hx262_21
      try clear hx262_22
      try clear hx262_3
      try clear hx262_4
      try clear hx262_5
      try clear hx262_6
      try clear hx262_7
      try clear hx262_8
      try clear hx262_9
      try clear p2
      try clear p26
      try clear p262
      try clear p6
      try clear q2
      try clear q26
      try clear q262
      obtain ⟨kq, HA, HJ1, HB⟩ := hcut
      cases kq with
      | zero => exact absurd HA.out (by simp [gangwaylaw20_StatSubs.j7])
      | succ kj1 =>
        have H := HA.out
        clear HA
        simp only [gangwaylaw20_StatSubs.j7] at H
        replace H := Option.bind_eq_some_iff.mp H
        obtain ⟨t281, A450, H⟩ := H
        replace H : (some t281) = some r := H
        have A45 := Aside0.mk A450
        clear A450
        obtain rfl := Option.some.inj H
        go_wp2_with (first | ((with_reducible refine gate_callee (f := 14) rfl ?_); refine goesL_ (some 58) rfl rfl Try.func14 (by kernel_rfl) rfl #[] rfl (by (try simp only [List.map_toArray, List.map_cons, List.map_nil]); first | done | rfl | (simp only [List.length_drop, List.length_take]; rfl)) ?_; (with_reducible refine (gangwaylaw20_wakes.calls kj1  t281 _ A45.out).mono ?_); rintro e w46 ⟨rfl, hb⟩; refine ⟨_, rfl, ?_⟩; have n0_ := Aside0.mk (below_step (by repeat (first | (with_reducible first | exact HB.out | apply below_alloc | apply pw_below_drewN | apply below_drew1) | exact HB.out)) hb); clear HB; have HB := n0_; clear n0_; (try clear hb); (try clear hb2); (try clear hk); (try clear hi)))
        go_ret
        exact ⟨by first | rfl | (simp [errW_none, errW_some] <;> rfl) | (simp [*, errW_none, errW_some] <;> rfl), by repeat (first | (with_reducible first | exact HB.out | apply below_alloc | apply pw_below_drewN | apply below_drew1) | exact HB.out)⟩

/-- THE ONE PURE STATEMENT of gangwaylaw20_StatSubs: yours. -/
def gangwaylaw20_StatSubs.Pure : Prop := ∀ (x0 : List (S35)), (x0.length * 256 ≤ 140737488351232 ∧ ∀ y282 ∈ x0, okT35 y282) → ∃ k, gangwaylaw20_StatSubs.f k x0 = some true
theorem gangwaylaw20_StatSubs.walk (P : gangwaylaw20_StatSubs.Pure) (w : World) (x0 : List (S35)) (A0 : Option Addr) (c0 : Nat) (hr0 : Kd.C k35 w A0 x0.length x0) (hc0 : x0.length ≤ c0) (hok0 : (x0.length * 256 ≤ 140737488351232 ∧ ∀ y283 ∈ x0, okT35 y283)) :
    Calls Try.prog 5 #[.slice A0 x0.length c0] w fun e w' => e = .returned (.bool true) ∧ Below w.heap.size w w' := by
  obtain ⟨k, h⟩ := P x0 hok0
  refine (gangwaylaw20_StatSubs.calls k _ _ x0 true w hr0 hc0 h).mono ?_
  rintro e w' ⟨rfl, hd⟩
  exact ⟨rfl, hd⟩

end Go.Proofs.Ythhmnecnoojcpaa.PAll
