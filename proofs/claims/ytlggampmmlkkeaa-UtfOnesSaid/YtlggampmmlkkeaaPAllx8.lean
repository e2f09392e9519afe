/- Printed by a copy of the printer that was turned for this claim: functions as plain Lean functions, with proofs that their calls come to these; or words that such proofs use. -/
import Derived.Test.YtlggampmmlkkeaaPAllx0
import Derived.Test.YtlggampmmlkkeaaPAllx1
import Derived.Test.YtlggampmmlkkeaaPAllx3
import Derived.Test.YtlggampmmlkkeaaPAllx4
import Derived.Test.YtlggampmmlkkeaaPAllx5
namespace Go.Proofs.Ytlggampmmlkkeaa.PAll
open Go.RowKit Go.Proofs.YtlggampmmlkkeaaW.PrintWords Go.Proofs.YtlggampmmlkkeaaW.PrintLast Go.Proofs.YtlggampmmlkkeaaW.PrintMore
attribute [local go_sem] max2_int min2_int max_two min_two max_three min_three max_four min_four   -- for this text's walks alone
set_option linter.unusedVariables false
set_option linter.unusedSimpArgs false

/-! ### gangwaylaw2_UtfOnes: function 6 -/
mutual
def gangwaylaw2_UtfOnes.l0 : Nat → List (S27) → Int → Option (Bool)
  | 0, _, _ => none
  | k + 1, x0, x3 => if x3 < 256 then ((utf_Check.f k (([(x3) % 256] : List Int))).bind fun t322 => ((gangwaylaw2_num.f t322).bind fun t323 => (if ((t323 == 0) != (decide (x3 < 128))) = true then (some false) else (gangwaylaw2_UtfOnes.l0 k x0 (wrap64 (x3 + 1)))))) else (gangwaylaw2_UtfOnes.l1 k x0 0)
def gangwaylaw2_UtfOnes.l1 : Nat → List (S27) → Int → Option (Bool)
  | 0, _, _ => none
  | k + 1, x0, x4 => if x4 < (x0.length : Int) then (gangwaylaw2_UtfOnes.j2 k x0 x4 (decide (x4 < 20))) else (gangwaylaw2_UtfOnes.j2 k x0 x4 false)
def gangwaylaw2_UtfOnes.j2 : Nat → List (S27) → Int → Bool → Option (Bool)
  | 0, _, _, _ => none
  | k + 1, x0, x4, x32 => if x32 = true then (gangwaylaw2_UtfOnes.l2 k x0 x4 0) else ((gangwaylaw2_wakes.f k).bind fun t324 => (some t324))
def gangwaylaw2_UtfOnes.l2 : Nat → List (S27) → Int → Int → Option (Bool)
  | 0, _, _, _ => none
  | k + 1, x0, x4, x5 => if 0 ≤ x4 then (if x4 < (x0.length : Int) then (if x5 < (((rd_T27 x0 x4).f1).length : Int) then (gangwaylaw2_UtfOnes.j4 k x0 x4 x5 (decide (x5 < 20))) else (gangwaylaw2_UtfOnes.j4 k x0 x4 x5 false)) else (none)) else (none)
def gangwaylaw2_UtfOnes.j4 : Nat → List (S27) → Int → Int → Bool → Option (Bool)
  | 0, _, _, _, _ => none
  | k + 1, x0, x4, x5, x46 => if x46 = true then (if 0 ≤ x4 then (if x4 < (x0.length : Int) then (if 0 ≤ x5 then (if x5 < (((rd_T27 x0 x4).f1).length : Int) then ((utf_Bytes.f k (([rd ((rd_T27 x0 x4).f1) x5] : List Int))).bind fun bt331 => ((gangwaylaw2_num.f bt331.2).bind fun t335 => (if t335 = 0 then (if (rd ((rd_T27 x0 x4).f1) x5) ≥ 128 then (gangwaylaw2_UtfOnes.j5 k x0 x4 x5 (rd ((rd_T27 x0 x4).f1) x5) bt331.1 2) else (gangwaylaw2_UtfOnes.j5 k x0 x4 x5 (rd ((rd_T27 x0 x4).f1) x5) bt331.1 1)) else (if (rd ((rd_T27 x0 x4).f1) x5) ≥ 0 then (if (rd ((rd_T27 x0 x4).f1) x5) < 55296 then (some false) else (if (rd ((rd_T27 x0 x4).f1) x5) > 57343 then (if (rd ((rd_T27 x0 x4).f1) x5) ≤ 1114111 then (some false) else (gangwaylaw2_UtfOnes.l2 k x0 x4 (wrap64 (x5 + 1)))) else (gangwaylaw2_UtfOnes.l2 k x0 x4 (wrap64 (x5 + 1))))) else (if (rd ((rd_T27 x0 x4).f1) x5) > 57343 then (if (rd ((rd_T27 x0 x4).f1) x5) ≤ 1114111 then (some false) else (gangwaylaw2_UtfOnes.l2 k x0 x4 (wrap64 (x5 + 1)))) else (gangwaylaw2_UtfOnes.l2 k x0 x4 (wrap64 (x5 + 1)))))))) else (none)) else (none)) else (none)) else (none)) else (gangwaylaw2_UtfOnes.l1 k x0 (wrap64 (x4 + 1)))
def gangwaylaw2_UtfOnes.j5 : Nat → List (S27) → Int → Int → Int → List Int → Int → Option (Bool)
  | 0, _, _, _, _, _, _ => none
  | k + 1, x0, x4, x5, x6, x7, x9 => if x6 ≥ 2048 then (gangwaylaw2_UtfOnes.j6 k x0 x4 x5 x6 x7 3) else (gangwaylaw2_UtfOnes.j6 k x0 x4 x5 x6 x7 x9)
def gangwaylaw2_UtfOnes.j6 : Nat → List (S27) → Int → Int → Int → List Int → Int → Option (Bool)
  | 0, _, _, _, _, _, _ => none
  | k + 1, x0, x4, x5, x6, x7, x9 => if x6 ≥ 65536 then (gangwaylaw2_UtfOnes.j7 k x0 x4 x5 x7 4) else (gangwaylaw2_UtfOnes.j7 k x0 x4 x5 x7 x9)
def gangwaylaw2_UtfOnes.j7 : Nat → List (S27) → Int → Int → List Int → Int → Option (Bool)
  | 0, _, _, _, _, _ => none
  | k + 1, x0, x4, x5, x7, x9 => if (x7.length : Int) = x9 then (if x9 > 1 then (if 1 ≤ (x7.length : Int) then ((utf_Check.f k (x7.drop 1)).bind fun t340 => ((gangwaylaw2_num.f t340).bind fun t341 => (gangwaylaw2_UtfOnes.j8 k x0 x4 x5 x7 x9 (t341 != 100)))) else (none)) else (gangwaylaw2_UtfOnes.j8 k x0 x4 x5 x7 x9 false)) else (gangwaylaw2_UtfOnes.j8 k x0 x4 x5 x7 x9 true)
def gangwaylaw2_UtfOnes.j8 : Nat → List (S27) → Int → Int → List Int → Int → Bool → Option (Bool)
  | 0, _, _, _, _, _, _ => none
  | k + 1, x0, x4, x5, x7, x9, x100 => if x100 = true then (some false) else (gangwaylaw2_UtfOnes.l3 k x0 x4 x5 x7 x9 1)
def gangwaylaw2_UtfOnes.l3 : Nat → List (S27) → Int → Int → List Int → Int → Int → Option (Bool)
  | 0, _, _, _, _, _, _ => none
  | k + 1, x0, x4, x5, x7, x9, x10 => if x10 < x9 then ((gangwayref0_CopyBytes.f k x7).bind fun t342 => (if 0 ≤ x10 then (if x10 < (t342.length : Int) then ((utf_Check.f k (t342.set (x10 : Int).toNat (Go.bits .xor .u8 (rd t342 x10) 128))).bind fun t347 => ((gangwaylaw2_num.f t347).bind fun t348 => (if t348 = 100 then (gangwaylaw2_UtfOnes.l3 k x0 x4 x5 x7 x9 (wrap64 (x10 + 1))) else (some false)))) else (none)) else (none))) else (gangwaylaw2_UtfOnes.l2 k x0 x4 (wrap64 (x5 + 1)))
end
def gangwaylaw2_UtfOnes.f (k : Nat) (l0 : List (S27)) : Option (Bool) := gangwaylaw2_UtfOnes.l0 k l0 0
theorem gangwaylaw2_UtfOnes.mono_l : ∀ k, (∀ y0 y1, LeO (gangwaylaw2_UtfOnes.l0 k y0 y1) (gangwaylaw2_UtfOnes.l0 (k + 1) y0 y1)) ∧ (∀ y0 y1, LeO (gangwaylaw2_UtfOnes.l1 k y0 y1) (gangwaylaw2_UtfOnes.l1 (k + 1) y0 y1)) ∧ (∀ y0 y1 y2, LeO (gangwaylaw2_UtfOnes.j2 k y0 y1 y2) (gangwaylaw2_UtfOnes.j2 (k + 1) y0 y1 y2)) ∧ (∀ y0 y1 y2, LeO (gangwaylaw2_UtfOnes.l2 k y0 y1 y2) (gangwaylaw2_UtfOnes.l2 (k + 1) y0 y1 y2)) ∧ (∀ y0 y1 y2 y3, LeO (gangwaylaw2_UtfOnes.j4 k y0 y1 y2 y3) (gangwaylaw2_UtfOnes.j4 (k + 1) y0 y1 y2 y3)) ∧ (∀ y0 y1 y2 y3 y4 y5, LeO (gangwaylaw2_UtfOnes.j5 k y0 y1 y2 y3 y4 y5) (gangwaylaw2_UtfOnes.j5 (k + 1) y0 y1 y2 y3 y4 y5)) ∧ (∀ y0 y1 y2 y3 y4 y5, LeO (gangwaylaw2_UtfOnes.j6 k y0 y1 y2 y3 y4 y5) (gangwaylaw2_UtfOnes.j6 (k + 1) y0 y1 y2 y3 y4 y5)) ∧ (∀ y0 y1 y2 y3 y4, LeO (gangwaylaw2_UtfOnes.j7 k y0 y1 y2 y3 y4) (gangwaylaw2_UtfOnes.j7 (k + 1) y0 y1 y2 y3 y4)) ∧ (∀ y0 y1 y2 y3 y4 y5, LeO (gangwaylaw2_UtfOnes.j8 k y0 y1 y2 y3 y4 y5) (gangwaylaw2_UtfOnes.j8 (k + 1) y0 y1 y2 y3 y4 y5)) ∧ (∀ y0 y1 y2 y3 y4 y5, LeO (gangwaylaw2_UtfOnes.l3 k y0 y1 y2 y3 y4 y5) (gangwaylaw2_UtfOnes.l3 (k + 1) y0 y1 y2 y3 y4 y5))
  | 0 => ⟨fun _ _ r h => by simp [gangwaylaw2_UtfOnes.l0] at h, fun _ _ r h => by simp [gangwaylaw2_UtfOnes.l1] at h, fun _ _ _ r h => by simp [gangwaylaw2_UtfOnes.j2] at h, fun _ _ _ r h => by simp [gangwaylaw2_UtfOnes.l2] at h, fun _ _ _ _ r h => by simp [gangwaylaw2_UtfOnes.j4] at h, fun _ _ _ _ _ _ r h => by simp [gangwaylaw2_UtfOnes.j5] at h, fun _ _ _ _ _ _ r h => by simp [gangwaylaw2_UtfOnes.j6] at h, fun _ _ _ _ _ r h => by simp [gangwaylaw2_UtfOnes.j7] at h, fun _ _ _ _ _ _ r h => by simp [gangwaylaw2_UtfOnes.j8] at h, fun _ _ _ _ _ _ r h => by simp [gangwaylaw2_UtfOnes.l3] at h⟩
  | k + 1 => by
    obtain ⟨ih0, ih1, ih2, ih3, ih4, ih5, ih6, ih7, ih8, ih9⟩ := gangwaylaw2_UtfOnes.mono_l k
    refine ⟨?_, ?_, ?_, ?_, ?_, ?_, ?_, ?_, ?_, ?_⟩
    · intro y0 y1
      unfold gangwaylaw2_UtfOnes.l0
      repeat' first
      | (with_reducible exact ih0 _ _)
      | (with_reducible exact ih1 _ _)
      | (with_reducible exact ih2 _ _ _)
      | (with_reducible exact ih3 _ _ _)
      | (with_reducible exact ih4 _ _ _ _)
      | (with_reducible exact ih5 _ _ _ _ _ _)
      | (with_reducible exact ih6 _ _ _ _ _ _)
      | (with_reducible exact ih7 _ _ _ _ _)
      | (with_reducible exact ih8 _ _ _ _ _ _)
      | (with_reducible exact ih9 _ _ _ _ _ _)
      | (with_reducible exact gangwaylaw2_wakes.mono _)
      | (with_reducible exact gangwayref0_CopyBytes.mono _ _)
      | (with_reducible exact utf_Bytes.mono _ _)
      | (with_reducible exact utf_Check.mono _ _)
      | (with_reducible exact LeO.refl _)
      | (with_reducible exact LeO.none _)
      | (with_reducible refine LeO.ite ?_ ?_)
      | (with_reducible refine LeO.bind ?_ (fun _ => ?_))
      | exact ih0 _ _
      | exact ih1 _ _
      | exact ih2 _ _ _
      | exact ih3 _ _ _
      | exact ih4 _ _ _ _
      | exact ih5 _ _ _ _ _ _
      | exact ih6 _ _ _ _ _ _
      | exact ih7 _ _ _ _ _
      | exact ih8 _ _ _ _ _ _
      | exact ih9 _ _ _ _ _ _
      | exact gangwaylaw2_wakes.mono _
      | exact gangwayref0_CopyBytes.mono _ _
      | exact utf_Bytes.mono _ _
      | exact utf_Check.mono _ _
      | exact LeO.none _
      | refine LeO.ite ?_ ?_
      | refine LeO.bind ?_ (fun _ => ?_)
    · intro y0 y1
      unfold gangwaylaw2_UtfOnes.l1
      repeat' first
      | (with_reducible exact ih0 _ _)
      | (with_reducible exact ih1 _ _)
      | (with_reducible exact ih2 _ _ _)
      | (with_reducible exact ih3 _ _ _)
      | (with_reducible exact ih4 _ _ _ _)
      | (with_reducible exact ih5 _ _ _ _ _ _)
      | (with_reducible exact ih6 _ _ _ _ _ _)
      | (with_reducible exact ih7 _ _ _ _ _)
      | (with_reducible exact ih8 _ _ _ _ _ _)
      | (with_reducible exact ih9 _ _ _ _ _ _)
      | (with_reducible exact gangwaylaw2_wakes.mono _)
      | (with_reducible exact gangwayref0_CopyBytes.mono _ _)
      | (with_reducible exact utf_Bytes.mono _ _)
      | (with_reducible exact utf_Check.mono _ _)
      | (with_reducible exact LeO.refl _)
      | (with_reducible exact LeO.none _)
      | (with_reducible refine LeO.ite ?_ ?_)
      | (with_reducible refine LeO.bind ?_ (fun _ => ?_))
      | exact ih0 _ _
      | exact ih1 _ _
      | exact ih2 _ _ _
      | exact ih3 _ _ _
      | exact ih4 _ _ _ _
      | exact ih5 _ _ _ _ _ _
      | exact ih6 _ _ _ _ _ _
      | exact ih7 _ _ _ _ _
      | exact ih8 _ _ _ _ _ _
      | exact ih9 _ _ _ _ _ _
      | exact gangwaylaw2_wakes.mono _
      | exact gangwayref0_CopyBytes.mono _ _
      | exact utf_Bytes.mono _ _
      | exact utf_Check.mono _ _
      | exact LeO.none _
      | refine LeO.ite ?_ ?_
      | refine LeO.bind ?_ (fun _ => ?_)
    · intro y0 y1 y2
      unfold gangwaylaw2_UtfOnes.j2
      repeat' first
      | (with_reducible exact ih0 _ _)
      | (with_reducible exact ih1 _ _)
      | (with_reducible exact ih2 _ _ _)
      | (with_reducible exact ih3 _ _ _)
      | (with_reducible exact ih4 _ _ _ _)
      | (with_reducible exact ih5 _ _ _ _ _ _)
      | (with_reducible exact ih6 _ _ _ _ _ _)
      | (with_reducible exact ih7 _ _ _ _ _)
      | (with_reducible exact ih8 _ _ _ _ _ _)
      | (with_reducible exact ih9 _ _ _ _ _ _)
      | (with_reducible exact gangwaylaw2_wakes.mono _)
      | (with_reducible exact gangwayref0_CopyBytes.mono _ _)
      | (with_reducible exact utf_Bytes.mono _ _)
      | (with_reducible exact utf_Check.mono _ _)
      | (with_reducible exact LeO.refl _)
      | (with_reducible exact LeO.none _)
      | (with_reducible refine LeO.ite ?_ ?_)
      | (with_reducible refine LeO.bind ?_ (fun _ => ?_))
      | exact ih0 _ _
      | exact ih1 _ _
      | exact ih2 _ _ _
      | exact ih3 _ _ _
      | exact ih4 _ _ _ _
      | exact ih5 _ _ _ _ _ _
      | exact ih6 _ _ _ _ _ _
      | exact ih7 _ _ _ _ _
      | exact ih8 _ _ _ _ _ _
      | exact ih9 _ _ _ _ _ _
      | exact gangwaylaw2_wakes.mono _
      | exact gangwayref0_CopyBytes.mono _ _
      | exact utf_Bytes.mono _ _
      | exact utf_Check.mono _ _
      | exact LeO.none _
      | refine LeO.ite ?_ ?_
      | refine LeO.bind ?_ (fun _ => ?_)
    · intro y0 y1 y2
      unfold gangwaylaw2_UtfOnes.l2
      repeat' first
      | (with_reducible exact ih0 _ _)
      | (with_reducible exact ih1 _ _)
      | (with_reducible exact ih2 _ _ _)
      | (with_reducible exact ih3 _ _ _)
      | (with_reducible exact ih4 _ _ _ _)
      | (with_reducible exact ih5 _ _ _ _ _ _)
      | (with_reducible exact ih6 _ _ _ _ _ _)
      | (with_reducible exact ih7 _ _ _ _ _)
      | (with_reducible exact ih8 _ _ _ _ _ _)
      | (with_reducible exact ih9 _ _ _ _ _ _)
      | (with_reducible exact gangwaylaw2_wakes.mono _)
      | (with_reducible exact gangwayref0_CopyBytes.mono _ _)
      | (with_reducible exact utf_Bytes.mono _ _)
      | (with_reducible exact utf_Check.mono _ _)
      | (with_reducible exact LeO.refl _)
      | (with_reducible exact LeO.none _)
      | (with_reducible refine LeO.ite ?_ ?_)
      | (with_reducible refine LeO.bind ?_ (fun _ => ?_))
      | exact ih0 _ _
      | exact ih1 _ _
      | exact ih2 _ _ _
      | exact ih3 _ _ _
      | exact ih4 _ _ _ _
      | exact ih5 _ _ _ _ _ _
      | exact ih6 _ _ _ _ _ _
      | exact ih7 _ _ _ _ _
      | exact ih8 _ _ _ _ _ _
      | exact ih9 _ _ _ _ _ _
      | exact gangwaylaw2_wakes.mono _
      | exact gangwayref0_CopyBytes.mono _ _
      | exact utf_Bytes.mono _ _
      | exact utf_Check.mono _ _
      | exact LeO.none _
      | refine LeO.ite ?_ ?_
      | refine LeO.bind ?_ (fun _ => ?_)
    · intro y0 y1 y2 y3
      unfold gangwaylaw2_UtfOnes.j4
      repeat' first
      | (with_reducible exact ih0 _ _)
      | (with_reducible exact ih1 _ _)
      | (with_reducible exact ih2 _ _ _)
      | (with_reducible exact ih3 _ _ _)
      | (with_reducible exact ih4 _ _ _ _)
      | (with_reducible exact ih5 _ _ _ _ _ _)
      | (with_reducible exact ih6 _ _ _ _ _ _)
      | (with_reducible exact ih7 _ _ _ _ _)
      | (with_reducible exact ih8 _ _ _ _ _ _)
      | (with_reducible exact ih9 _ _ _ _ _ _)
      | (with_reducible exact gangwaylaw2_wakes.mono _)
      | (with_reducible exact gangwayref0_CopyBytes.mono _ _)
      | (with_reducible exact utf_Bytes.mono _ _)
      | (with_reducible exact utf_Check.mono _ _)
      | (with_reducible exact LeO.refl _)
      | (with_reducible exact LeO.none _)
      | (with_reducible refine LeO.ite ?_ ?_)
      | (with_reducible refine LeO.bind ?_ (fun _ => ?_))
      | exact ih0 _ _
      | exact ih1 _ _
      | exact ih2 _ _ _
      | exact ih3 _ _ _
      | exact ih4 _ _ _ _
      | exact ih5 _ _ _ _ _ _
      | exact ih6 _ _ _ _ _ _
      | exact ih7 _ _ _ _ _
      | exact ih8 _ _ _ _ _ _
      | exact ih9 _ _ _ _ _ _
      | exact gangwaylaw2_wakes.mono _
      | exact gangwayref0_CopyBytes.mono _ _
      | exact utf_Bytes.mono _ _
      | exact utf_Check.mono _ _
      | exact LeO.none _
      | refine LeO.ite ?_ ?_
      | refine LeO.bind ?_ (fun _ => ?_)
    · intro y0 y1 y2 y3 y4 y5
      unfold gangwaylaw2_UtfOnes.j5
      repeat' first
      | (with_reducible exact ih0 _ _)
      | (with_reducible exact ih1 _ _)
      | (with_reducible exact ih2 _ _ _)
      | (with_reducible exact ih3 _ _ _)
      | (with_reducible exact ih4 _ _ _ _)
      | (with_reducible exact ih5 _ _ _ _ _ _)
      | (with_reducible exact ih6 _ _ _ _ _ _)
      | (with_reducible exact ih7 _ _ _ _ _)
      | (with_reducible exact ih8 _ _ _ _ _ _)
      | (with_reducible exact ih9 _ _ _ _ _ _)
      | (with_reducible exact gangwaylaw2_wakes.mono _)
      | (with_reducible exact gangwayref0_CopyBytes.mono _ _)
      | (with_reducible exact utf_Bytes.mono _ _)
      | (with_reducible exact utf_Check.mono _ _)
      | (with_reducible exact LeO.refl _)
      | (with_reducible exact LeO.none _)
      | (with_reducible refine LeO.ite ?_ ?_)
      | (with_reducible refine LeO.bind ?_ (fun _ => ?_))
      | exact ih0 _ _
      | exact ih1 _ _
      | exact ih2 _ _ _
      | exact ih3 _ _ _
      | exact ih4 _ _ _ _
      | exact ih5 _ _ _ _ _ _
      | exact ih6 _ _ _ _ _ _
      | exact ih7 _ _ _ _ _
      | exact ih8 _ _ _ _ _ _
      | exact ih9 _ _ _ _ _ _
      | exact gangwaylaw2_wakes.mono _
      | exact gangwayref0_CopyBytes.mono _ _
      | exact utf_Bytes.mono _ _
      | exact utf_Check.mono _ _
      | exact LeO.none _
      | refine LeO.ite ?_ ?_
      | refine LeO.bind ?_ (fun _ => ?_)
    · intro y0 y1 y2 y3 y4 y5
      unfold gangwaylaw2_UtfOnes.j6
      repeat' first
      | (with_reducible exact ih0 _ _)
      | (with_reducible exact ih1 _ _)
      | (with_reducible exact ih2 _ _ _)
      | (with_reducible exact ih3 _ _ _)
      | (with_reducible exact ih4 _ _ _ _)
      | (with_reducible exact ih5 _ _ _ _ _ _)
      | (with_reducible exact ih6 _ _ _ _ _ _)
      | (with_reducible exact ih7 _ _ _ _ _)
      | (with_reducible exact ih8 _ _ _ _ _ _)
      | (with_reducible exact ih9 _ _ _ _ _ _)
      | (with_reducible exact gangwaylaw2_wakes.mono _)
      | (with_reducible exact gangwayref0_CopyBytes.mono _ _)
      | (with_reducible exact utf_Bytes.mono _ _)
      | (with_reducible exact utf_Check.mono _ _)
      | (with_reducible exact LeO.refl _)
      | (with_reducible exact LeO.none _)
      | (with_reducible refine LeO.ite ?_ ?_)
      | (with_reducible refine LeO.bind ?_ (fun _ => ?_))
      | exact ih0 _ _
      | exact ih1 _ _
      | exact ih2 _ _ _
      | exact ih3 _ _ _
      | exact ih4 _ _ _ _
      | exact ih5 _ _ _ _ _ _
      | exact ih6 _ _ _ _ _ _
      | exact ih7 _ _ _ _ _
      | exact ih8 _ _ _ _ _ _
      | exact ih9 _ _ _ _ _ _
      | exact gangwaylaw2_wakes.mono _
      | exact gangwayref0_CopyBytes.mono _ _
      | exact utf_Bytes.mono _ _
      | exact utf_Check.mono _ _
      | exact LeO.none _
      | refine LeO.ite ?_ ?_
      | refine LeO.bind ?_ (fun _ => ?_)
    · intro y0 y1 y2 y3 y4
      unfold gangwaylaw2_UtfOnes.j7
      repeat' first
      | (with_reducible exact ih0 _ _)
      | (with_reducible exact ih1 _ _)
      | (with_reducible exact ih2 _ _ _)
      | (with_reducible exact ih3 _ _ _)
      | (with_reducible exact ih4 _ _ _ _)
      | (with_reducible exact ih5 _ _ _ _ _ _)
      | (with_reducible exact ih6 _ _ _ _ _ _)
      | (with_reducible exact ih7 _ _ _ _ _)
      | (with_reducible exact ih8 _ _ _ _ _ _)
      | (with_reducible exact ih9 _ _ _ _ _ _)
      | (with_reducible exact gangwaylaw2_wakes.mono _)
      | (with_reducible exact gangwayref0_CopyBytes.mono _ _)
      | (with_reducible exact utf_Bytes.mono _ _)
      | (with_reducible exact utf_Check.mono _ _)
      | (with_reducible exact LeO.refl _)
      | (with_reducible exact LeO.none _)
      | (with_reducible refine LeO.ite ?_ ?_)
      | (with_reducible refine LeO.bind ?_ (fun _ => ?_))
      | exact ih0 _ _
      | exact ih1 _ _
      | exact ih2 _ _ _
      | exact ih3 _ _ _
      | exact ih4 _ _ _ _
      | exact ih5 _ _ _ _ _ _
      | exact ih6 _ _ _ _ _ _
      | exact ih7 _ _ _ _ _
      | exact ih8 _ _ _ _ _ _
      | exact ih9 _ _ _ _ _ _
      | exact gangwaylaw2_wakes.mono _
      | exact gangwayref0_CopyBytes.mono _ _
      | exact utf_Bytes.mono _ _
      | exact utf_Check.mono _ _
      | exact LeO.none _
      | refine LeO.ite ?_ ?_
      | refine LeO.bind ?_ (fun _ => ?_)
    · intro y0 y1 y2 y3 y4 y5
      unfold gangwaylaw2_UtfOnes.j8
      repeat' first
      | (with_reducible exact ih0 _ _)
      | (with_reducible exact ih1 _ _)
      | (with_reducible exact ih2 _ _ _)
      | (with_reducible exact ih3 _ _ _)
      | (with_reducible exact ih4 _ _ _ _)
      | (with_reducible exact ih5 _ _ _ _ _ _)
      | (with_reducible exact ih6 _ _ _ _ _ _)
      | (with_reducible exact ih7 _ _ _ _ _)
      | (with_reducible exact ih8 _ _ _ _ _ _)
      | (with_reducible exact ih9 _ _ _ _ _ _)
      | (with_reducible exact gangwaylaw2_wakes.mono _)
      | (with_reducible exact gangwayref0_CopyBytes.mono _ _)
      | (with_reducible exact utf_Bytes.mono _ _)
      | (with_reducible exact utf_Check.mono _ _)
      | (with_reducible exact LeO.refl _)
      | (with_reducible exact LeO.none _)
      | (with_reducible refine LeO.ite ?_ ?_)
      | (with_reducible refine LeO.bind ?_ (fun _ => ?_))
      | exact ih0 _ _
      | exact ih1 _ _
      | exact ih2 _ _ _
      | exact ih3 _ _ _
      | exact ih4 _ _ _ _
      | exact ih5 _ _ _ _ _ _
      | exact ih6 _ _ _ _ _ _
      | exact ih7 _ _ _ _ _
      | exact ih8 _ _ _ _ _ _
      | exact ih9 _ _ _ _ _ _
      | exact gangwaylaw2_wakes.mono _
      | exact gangwayref0_CopyBytes.mono _ _
      | exact utf_Bytes.mono _ _
      | exact utf_Check.mono _ _
      | exact LeO.none _
      | refine LeO.ite ?_ ?_
      | refine LeO.bind ?_ (fun _ => ?_)
    · intro y0 y1 y2 y3 y4 y5
      unfold gangwaylaw2_UtfOnes.l3
      repeat' first
      | (with_reducible exact ih0 _ _)
      | (with_reducible exact ih1 _ _)
      | (with_reducible exact ih2 _ _ _)
      | (with_reducible exact ih3 _ _ _)
      | (with_reducible exact ih4 _ _ _ _)
      | (with_reducible exact ih5 _ _ _ _ _ _)
      | (with_reducible exact ih6 _ _ _ _ _ _)
      | (with_reducible exact ih7 _ _ _ _ _)
      | (with_reducible exact ih8 _ _ _ _ _ _)
      | (with_reducible exact ih9 _ _ _ _ _ _)
      | (with_reducible exact gangwaylaw2_wakes.mono _)
      | (with_reducible exact gangwayref0_CopyBytes.mono _ _)
      | (with_reducible exact utf_Bytes.mono _ _)
      | (with_reducible exact utf_Check.mono _ _)
      | (with_reducible exact LeO.refl _)
      | (with_reducible exact LeO.none _)
      | (with_reducible refine LeO.ite ?_ ?_)
      | (with_reducible refine LeO.bind ?_ (fun _ => ?_))
      | exact ih0 _ _
      | exact ih1 _ _
      | exact ih2 _ _ _
      | exact ih3 _ _ _
      | exact ih4 _ _ _ _
      | exact ih5 _ _ _ _ _ _
      | exact ih6 _ _ _ _ _ _
      | exact ih7 _ _ _ _ _
      | exact ih8 _ _ _ _ _ _
      | exact ih9 _ _ _ _ _ _
      | exact gangwaylaw2_wakes.mono _
      | exact gangwayref0_CopyBytes.mono _ _
      | exact utf_Bytes.mono _ _
      | exact utf_Check.mono _ _
      | exact LeO.none _
      | refine LeO.ite ?_ ?_
      | refine LeO.bind ?_ (fun _ => ?_)
theorem gangwaylaw2_UtfOnes.mono : ∀ a0 k, LeO (gangwaylaw2_UtfOnes.f k a0) (gangwaylaw2_UtfOnes.f (k + 1) a0) := by
  intro a0 k
  obtain ⟨ih0, ih1, ih2, ih3, ih4, ih5, ih6, ih7, ih8, ih9⟩ := gangwaylaw2_UtfOnes.mono_l k
  unfold gangwaylaw2_UtfOnes.f
  repeat' first
      | (with_reducible exact ih0 _ _)
      | (with_reducible exact ih1 _ _)
      | (with_reducible exact ih2 _ _ _)
      | (with_reducible exact ih3 _ _ _)
      | (with_reducible exact ih4 _ _ _ _)
      | (with_reducible exact ih5 _ _ _ _ _ _)
      | (with_reducible exact ih6 _ _ _ _ _ _)
      | (with_reducible exact ih7 _ _ _ _ _)
      | (with_reducible exact ih8 _ _ _ _ _ _)
      | (with_reducible exact ih9 _ _ _ _ _ _)
      | (with_reducible exact gangwaylaw2_wakes.mono _)
      | (with_reducible exact gangwayref0_CopyBytes.mono _ _)
      | (with_reducible exact utf_Bytes.mono _ _)
      | (with_reducible exact utf_Check.mono _ _)
      | (with_reducible exact LeO.refl _)
      | (with_reducible exact LeO.none _)
      | (with_reducible refine LeO.ite ?_ ?_)
      | (with_reducible refine LeO.bind ?_ (fun _ => ?_))
      | exact ih0 _ _
      | exact ih1 _ _
      | exact ih2 _ _ _
      | exact ih3 _ _ _
      | exact ih4 _ _ _ _
      | exact ih5 _ _ _ _ _ _
      | exact ih6 _ _ _ _ _ _
      | exact ih7 _ _ _ _ _
      | exact ih8 _ _ _ _ _ _
      | exact ih9 _ _ _ _ _ _
      | exact gangwaylaw2_wakes.mono _
      | exact gangwayref0_CopyBytes.mono _ _
      | exact utf_Bytes.mono _ _
      | exact utf_Check.mono _ _
      | exact LeO.none _
      | refine LeO.ite ?_ ?_
      | refine LeO.bind ?_ (fun _ => ?_)
set_option maxHeartbeats 8000000 in
set_option maxRecDepth 100000 in
theorem gangwaylaw2_UtfOnes.calls (k : Nat) (A0 : Option Addr) (c0 : Nat) (l0 : List (S27)) (r : Bool) (w : World) (hr0 : Kd.C k27 w A0 l0.length l0) (hc0 : l0.length ≤ c0) (h : gangwaylaw2_UtfOnes.f k l0 = some r) :
    Calls Try.prog 6 #[.slice A0 l0.length c0] w fun e w' => e = .returned (.bool r) ∧ Below w.heap.size w w' := by
  have HR0 := Aside0.mk hr0
  have HC0 := Aside0.mk hc0
  clear hr0 hc0
  have HB := Aside0.mk (Below.refl w.heap.size w)
  have H : (gangwaylaw2_UtfOnes.l0 k l0 0) = some r := h
  clear h
  have H' := Aside0.mk H
  clear H
  go_enter Try.func6, Try.ntmps6
  go_wp2
  go_loopg [3] k (fun kq v3 w' => ∃ (x3_1 : Int), v3 = .int .i64 x3_1 ∧ Aside0 (gangwaylaw2_UtfOnes.l0 kq l0 x3_1 = some r) ∧ Aside0 (kq ≤ k) ∧ Aside0 (Below w.heap.size w w'))
  case atStart => exact ⟨(0), (by first | rfl | (simp; done) | (simp [*]; done)), H', ⟨Nat.le_refl _⟩, ⟨by repeat (first | (with_reducible first | exact HB.out | apply below_alloc | apply pw_below_drewN | apply below_drew1) | exact HB.out)⟩⟩
  case round =>
    clear H'
    obtain ⟨x3_1, rfl, HA, HK1, HB⟩ := hrel
    cases gk with
    | zero => exact absurd HA.out (by simp [gangwaylaw2_UtfOnes.l0])
    | succ k1 =>
      have H := HA.out
      clear HA
      simp only [gangwaylaw2_UtfOnes.l0] at H
      by_cases c2 : x3_1 < 256
      · rw [if_pos c2] at H
        have c2b0 : decide (x3_1 < 256) = true := decide_eq_true c2
        clear c2
        obtain ⟨y319, hy319⟩ : ∃ y_ : List Int, y_ = (([(x3_1) % 256] : List Int)) := ⟨_, rfl⟩
        replace H : ((utf_Check.f k1 y319).bind fun t322 => ((gangwaylaw2_num.f t322).bind fun t323 => (if ((t323 == 0) != (decide (x3_1 < 128))) = true then (some false) else (gangwaylaw2_UtfOnes.l0 k1 l0 (wrap64 (x3_1 + 1)))))) = some r := by first | (rw [hy319]; with_reducible exact H) | (have H2_ := (Option.bind_some _ _).symm.trans H; rw [hy319]; with_reducible exact H2_) | (have H2_ := (Option.bind_some _ _).symm.trans H; with_reducible exact H2_) | with_reducible exact H | (rw [hy319]; exact H) | exact H
        have Ny319 := Aside0.mk hy319
        clear hy319
        replace H := Option.bind_eq_some_iff.mp H
        obtain ⟨t322, A30, H⟩ := H
        replace H : ((gangwaylaw2_num.f t322).bind fun t323 => (if ((t323 == 0) != (decide (x3_1 < 128))) = true then (some false) else (gangwaylaw2_UtfOnes.l0 k1 l0 (wrap64 (x3_1 + 1))))) = some r := H
        have A3 := Aside0.mk A30
        clear A30
        replace H := Option.bind_eq_some_iff.mp H
        obtain ⟨t323, A40, H⟩ := H
        replace H : (if ((t323 == 0) != (decide (x3_1 < 128))) = true then (some false) else (gangwaylaw2_UtfOnes.l0 k1 l0 (wrap64 (x3_1 + 1)))) = some r := H
        have A4 := Aside0.mk A40
        clear A40
        by_cases c5 : ((t323 == 0) != (decide (x3_1 < 128))) = true
        · rw [if_pos c5] at H
          have c5b0 : ((t323 == 0) != (decide (x3_1 < 128))) = true := c5
          (try (have c5b1 : decide ((t323 == 0) = (decide (x3_1 < 128))) = false := by simpa using c5))
          (try (have c5b2 : ((t323 == 0) == (decide (x3_1 < 128))) = false := by simpa using c5))
          (try (have c5b3 : ¬ ((t323 == 0) = (decide (x3_1 < 128))) := by simpa using c5))
          clear c5
          obtain rfl := Option.some.inj H
          go_wp2_with (first | ((with_reducible refine gate_dst (N := 18) rfl ?_); refine Kd.R_lit (Kd.int .u8) _ 5 ?hg (N := 18) ?hd (xs := ([(x3_1) % 256] : List Int)) (inner := [.int .u8 ((x3_1) % 256)]) (ok := fun _ => True) (okp := fun _ => True) ?hr ?hp (fun _ hk => hk) trivial (Below.refl _ _) (Nat.le_refl _) (by simp) ?_; (case hd => rfl); (case hg => rfl); (case hr => first | (go_simp; done) | (go_simp; rfl)); (case hp => exact (Reps.one (show Kd.M (Kd.int .u8) _ _ _ ((x3_1) % 256) [.int .u8 ((x3_1) % 256)] from rfl) (Reps.none _ _))); intro v320 w6 ho7 hb hg_ hnew_; clear hg_ hnew_; (first | rw [← Ny319.out] at ho7 | (simp only [Int.reduceToNat] at ho7; rw [← Ny319.out] at ho7)); have n0_ := Aside0.mk (Kd.R_lower ho7 (below_size (by repeat (first | (with_reducible first | exact HB.out | apply below_alloc | apply pw_below_drewN | apply below_drew1) | exact HB.out)))); have n1_ := Aside0.mk (below_step (by repeat (first | (with_reducible first | exact HB.out | apply below_alloc | apply pw_below_drewN | apply below_drew1) | exact HB.out)) hb); clear HB; have HO321 := n0_; have HB := n1_; clear n0_ n1_; clear hb ho7; obtain ⟨Ao8, co8, eo8⟩ := Kd.R_slice HO321.out; subst eo8) | ((with_reducible refine gate_callee (f := 12) rfl ?_); refine goesL_ (some 19) rfl rfl Try.func12 (by kernel_rfl) rfl #[.slice Ao8 y319.length co8] rfl (by (try simp only [List.map_toArray, List.map_cons, List.map_nil]); first | done | rfl | (simp only [List.length_drop, List.length_take]; rfl)) ?_; (with_reducible refine (utf_Check.calls k1 _ _ y319 t322 _ ?side1 ?side2 A3.out).mono ?_); (case side1 => repeat (first | exact (Kd.R_reads' HO321.out).2.2 | (with_reducible refine Kd.C_alloc ?_ _) | (with_reducible refine Kd.C_drewN ?_ _) | (with_reducible refine Kd.C_drew ?_))); (case side2 => exact (Kd.R_reads' HO321.out).2.1); rintro e w9 ⟨rfl, hb⟩; refine ⟨_, rfl, ?_⟩; have n0_ := Aside0.mk (Kd.R_below (by (with_reducible repeat (first | apply Kd.R_alloc | apply Kd.R_drewN | apply Kd.R_drew)); exact HO321.out) hb); have n1_ := Aside0.mk (below_step (by repeat (first | (with_reducible first | exact HB.out | apply below_alloc | apply pw_below_drewN | apply below_drew1) | exact HB.out)) hb); clear HO321; clear HB; have HO321 := n0_; have HB := n1_; clear n0_ n1_; (try clear hb); (try clear hb2); (try clear hk); (try clear hi)) | ((with_reducible refine gate_callee (f := 11) rfl ?_); refine goesL_ (some 20) rfl rfl Try.func11 (by kernel_rfl) rfl #[.int .i64 t322] rfl (by (try simp only [List.map_toArray, List.map_cons, List.map_nil]); first | done | rfl | (simp only [List.length_drop, List.length_take]; rfl)) ?_; (with_reducible refine (gangwaylaw2_num.calls t322 t323 _ A4.out).mono ?_); rintro e w' ⟨rfl, ⟨nd, rfl⟩⟩; refine ⟨_, rfl, ?_⟩))
          go_ret
          exact ⟨by first | rfl | (simp [errW_none, errW_some] <;> rfl) | (simp [*, errW_none, errW_some] <;> rfl), by repeat (first | (with_reducible first | exact HB.out | apply below_alloc | apply pw_below_drewN | apply below_drew1) | exact HB.out)⟩
        · rw [if_neg c5] at H
          have c5b0 : ((t323 == 0) != (decide (x3_1 < 128))) = false := by simpa using c5
          (try (have c5b1 : decide ((t323 == 0) = (decide (x3_1 < 128))) = true := by simpa using c5))
          (try (have c5b2 : ((t323 == 0) == (decide (x3_1 < 128))) = true := by simpa using c5))
          clear c5
          have H' := Aside0.mk H
          clear H
          go_wp2_with (first | ((with_reducible refine gate_dst (N := 18) rfl ?_); refine Kd.R_lit (Kd.int .u8) _ 5 ?hg (N := 18) ?hd (xs := ([(x3_1) % 256] : List Int)) (inner := [.int .u8 ((x3_1) % 256)]) (ok := fun _ => True) (okp := fun _ => True) ?hr ?hp (fun _ hk => hk) trivial (Below.refl _ _) (Nat.le_refl _) (by simp) ?_; (case hd => rfl); (case hg => rfl); (case hr => first | (go_simp; done) | (go_simp; rfl)); (case hp => exact (Reps.one (show Kd.M (Kd.int .u8) _ _ _ ((x3_1) % 256) [.int .u8 ((x3_1) % 256)] from rfl) (Reps.none _ _))); intro v320 w10 ho11 hb hg_ hnew_; clear hg_ hnew_; (first | rw [← Ny319.out] at ho11 | (simp only [Int.reduceToNat] at ho11; rw [← Ny319.out] at ho11)); have n0_ := Aside0.mk (Kd.R_lower ho11 (below_size (by repeat (first | (with_reducible first | exact HB.out | apply below_alloc | apply pw_below_drewN | apply below_drew1) | exact HB.out)))); have n1_ := Aside0.mk (below_step (by repeat (first | (with_reducible first | exact HB.out | apply below_alloc | apply pw_below_drewN | apply below_drew1) | exact HB.out)) hb); clear HB; have HO321 := n0_; have HB := n1_; clear n0_ n1_; clear hb ho11; obtain ⟨Ao12, co12, eo12⟩ := Kd.R_slice HO321.out; subst eo12) | ((with_reducible refine gate_callee (f := 12) rfl ?_); refine goesL_ (some 19) rfl rfl Try.func12 (by kernel_rfl) rfl #[.slice Ao12 y319.length co12] rfl (by (try simp only [List.map_toArray, List.map_cons, List.map_nil]); first | done | rfl | (simp only [List.length_drop, List.length_take]; rfl)) ?_; (with_reducible refine (utf_Check.calls k1 _ _ y319 t322 _ ?side1 ?side2 A3.out).mono ?_); (case side1 => repeat (first | exact (Kd.R_reads' HO321.out).2.2 | (with_reducible refine Kd.C_alloc ?_ _) | (with_reducible refine Kd.C_drewN ?_ _) | (with_reducible refine Kd.C_drew ?_))); (case side2 => exact (Kd.R_reads' HO321.out).2.1); rintro e w13 ⟨rfl, hb⟩; refine ⟨_, rfl, ?_⟩; have n0_ := Aside0.mk (Kd.R_below (by (with_reducible repeat (first | apply Kd.R_alloc | apply Kd.R_drewN | apply Kd.R_drew)); exact HO321.out) hb); have n1_ := Aside0.mk (below_step (by repeat (first | (with_reducible first | exact HB.out | apply below_alloc | apply pw_below_drewN | apply below_drew1) | exact HB.out)) hb); clear HO321; clear HB; have HO321 := n0_; have HB := n1_; clear n0_ n1_; (try clear hb); (try clear hb2); (try clear hk); (try clear hi)) | ((with_reducible refine gate_callee (f := 11) rfl ?_); refine goesL_ (some 20) rfl rfl Try.func11 (by kernel_rfl) rfl #[.int .i64 t322] rfl (by (try simp only [List.map_toArray, List.map_cons, List.map_nil]); first | done | rfl | (simp only [List.length_drop, List.length_take]; rfl)) ?_; (with_reducible refine (gangwaylaw2_num.calls t322 t323 _ A4.out).mono ?_); rintro e w' ⟨rfl, ⟨nd, rfl⟩⟩; refine ⟨_, rfl, ?_⟩))
          go_roundg k1
          case measure => have := HK1.out; omega
          case rel => exact ⟨(wrap64 (x3_1 + 1)), (by first | rfl | (simp; done) | (simp [*]; done)), H', ⟨by have := HK1.out; omega⟩, ⟨by repeat (first | (with_reducible first | exact HB.out | apply below_alloc | apply pw_below_drewN | apply below_drew1) | exact HB.out)⟩⟩
      · rw [if_neg c2] at H
        have c2b0 : decide (x3_1 < 256) = false := decide_eq_false c2
        clear c2
        have H' := Aside0.mk H
        clear H
        go_wp2
        go_loopg [4] k1 (fun kq v4 w' => ∃ (x4_2 : Int), v4 = .int .i64 x4_2 ∧ Aside0 (gangwaylaw2_UtfOnes.l1 kq l0 x4_2 = some r) ∧ Aside0 (kq ≤ k1) ∧ Aside0 (Below w.heap.size w w'))
        case atStart => exact ⟨(0), (by first | rfl | (simp; done) | (simp [*]; done)), H', ⟨Nat.le_refl _⟩, ⟨by repeat (first | (with_reducible first | exact HB.out | apply below_alloc | apply pw_below_drewN | apply below_drew1) | exact HB.out)⟩⟩
        case round =>
          clear H'
          try clear c1
          try clear c2
          try clear c2b0
          try clear p2
          try clear c5
          try clear c5b0
          try clear c5b1
          try clear c5b2
          try clear c6
          try clear p6
          try clear c11
          try clear c12
          obtain ⟨x4_2, rfl, HA, HK2, HB⟩ := hrel
          cases gk with
          | zero => exact absurd HA.out (by simp [gangwaylaw2_UtfOnes.l1])
          | succ k2 =>
            have H := HA.out
            clear HA
            simp only [gangwaylaw2_UtfOnes.l1] at H
            have HC14 := Aside0.mk H
            clear H
            go_upto_region 7 with (fail)
            go_cut [32] (fun v32 wc => ∃ (kq : Nat) (x32_13 : Bool), v32 = .bool x32_13 ∧ Aside0 (gangwaylaw2_UtfOnes.j2 kq l0 x4_2 x32_13 = some r) ∧ Aside0 (kq ≤ k2) ∧ Aside0 (Below w.heap.size w wc))
            case first =>
              have H := HC14.out
              clear HC14
              by_cases c15 : x4_2 < (l0.length : Int)
              · rw [if_pos c15] at H
                have c15b0 : decide (x4_2 < (l0.length : Int)) = true := decide_eq_true c15
                clear c15
                (first | rw [c15b0] | (simp only [i64_w, i32_w]; rw [c15b0]) | skip)
                have H' := Aside0.mk H
                clear H
                go_wp2
                go_meet
                case rel => exact ⟨_, (decide (x4_2 < 20)), (by first | rfl | (simp; done) | (simp [*]; done)), H', ⟨by have := HK1.out; have := HK2.out; first | omega | exact Nat.le_refl _⟩, ⟨by repeat (first | (with_reducible first | exact HB.out | apply below_alloc | apply pw_below_drewN | apply below_drew1) | exact HB.out)⟩⟩
              · rw [if_neg c15] at H
                have c15b0 : decide (x4_2 < (l0.length : Int)) = false := decide_eq_false c15
                clear c15
                (first | rw [c15b0] | (simp only [i64_w, i32_w]; rw [c15b0]) | skip)
                have H' := Aside0.mk H
                clear H
                go_wp2
                go_meet
                case rel => exact ⟨_, (false), (by first | rfl | (simp; done) | (simp [*]; done)), H', ⟨by have := HK1.out; have := HK2.out; first | omega | exact Nat.le_refl _⟩, ⟨by repeat (first | (with_reducible first | exact HB.out | apply below_alloc | apply pw_below_drewN | apply below_drew1) | exact HB.out)⟩⟩
            case rest =>
              clear HC14
              try clear c1
              try clear c2
              try clear c2b0
              try clear p2
              try clear c5
              try clear c5b0
              try clear c5b1
              try clear c5b2
              try clear c6
              try clear p6
              try clear c11
              try clear c12
              try clear c15
              try clear c15b0
              try clear p2
              try clear p6
              obtain ⟨kq, x32_13, rfl, HA, HJ13, HB⟩ := hcut
              cases kq with
              | zero => exact absurd HA.out (by simp [gangwaylaw2_UtfOnes.j2])
              | succ kj13 =>
                have H := HA.out
                clear HA
                simp only [gangwaylaw2_UtfOnes.j2] at H
                by_cases c16 : x32_13 = true
                · subst c16
                  have H1 : (gangwaylaw2_UtfOnes.l2 kj13 l0 x4_2 0) = some r := by rw [if_pos rfl] at H; exact H
                  clear H
                  have H := H1
                  clear H1
                  have H' := Aside0.mk H
                  clear H
                  go_wp2
                  go_loopg [5] kj13 (fun kq v5 w' => ∃ (x5_4 : Int), v5 = .int .i64 x5_4 ∧ Aside0 (gangwaylaw2_UtfOnes.l2 kq l0 x4_2 x5_4 = some r) ∧ Aside0 (kq ≤ kj13) ∧ Aside0 (Below w.heap.size w w'))
                  case atStart => exact ⟨(0), (by first | rfl | (simp; done) | (simp [*]; done)), H', ⟨Nat.le_refl _⟩, ⟨by repeat (first | (with_reducible first | exact HB.out | apply below_alloc | apply pw_below_drewN | apply below_drew1) | exact HB.out)⟩⟩
                  case round =>
                    clear H'
                    try clear c1
                    try clear c2
                    try clear c2b0
                    try clear p2
                    try clear c5
                    try clear c5b0
                    try clear c5b1
                    try clear c5b2
                    try clear c6
                    try clear p6
                    try clear c11
                    try clear c12
                    try clear c15
                    try clear c15b0
                    try clear c16
                    try clear p2
                    try clear p6
                    obtain ⟨x5_4, rfl, HA, HK4, HB⟩ := hrel
                    cases gk with
                    | zero => exact absurd HA.out (by simp [gangwaylaw2_UtfOnes.l2])
                    | succ k4 =>
                      have H := HA.out
                      clear HA
                      simp only [gangwaylaw2_UtfOnes.l2] at H
                      have HC17 := Aside0.mk H
                      clear H
                      go_upto_region 10 with (fail)
                      go_cut [46] (fun v46 wc => ∃ (kq : Nat) (x46_16 : Bool), v46 = .bool x46_16 ∧ Aside0 (gangwaylaw2_UtfOnes.j4 kq l0 x4_2 x5_4 x46_16 = some r) ∧ Aside0 (kq ≤ k4) ∧ Aside0 (Below w.heap.size w wc))
                      case first =>
                        have H := HC17.out
                        clear HC17
                        by_cases c18 : 0 ≤ x4_2
                        · rw [if_pos c18] at H
                          have c18b0 : decide (0 ≤ x4_2) = true := decide_eq_true c18
                          clear c18
                          (first | rw [c18b0] | (simp only [i64_w, i32_w]; rw [c18b0]) | skip)
                          by_cases c19 : x4_2 < (l0.length : Int)
                          · rw [if_pos c19] at H
                            have c19b0 : decide (x4_2 < (l0.length : Int)) = true := decide_eq_true c19
                            clear c19
                            by_cases c20 : x5_4 < (((rd_T27 l0 x4_2).f1).length : Int)
                            · rw [if_pos c20] at H
                              have c20b0 : decide (x5_4 < (((rd_T27 l0 x4_2).f1).length : Int)) = true := decide_eq_true c20
                              clear c20
                              have H' := Aside0.mk H
                              clear H
                              have p325 : 0 ≤ (x4_2 : Int) := of_decide_eq_true (by first | (with_reducible assumption) | assumption)
                              have q325 : x4_2 < (l0.length : Int) := of_decide_eq_true (by first | (with_reducible assumption) | assumption)
                              obtain ⟨ad325, A325_0, c325_0, A325_1, c325_1, e325, hx325_0, hx325_1, hl325_0, hi325_0, hl325_1, hi325_1⟩ := at_T27 HR0.out x4_2 p325 q325
                              cases e325
                              replace hx325_0 := (HB.out.cell (World.block_lt_of_cell? w _ hx325_0)).trans hx325_0
                              replace hx325_1 := (HB.out.cell (World.block_lt_of_cell? w _ hx325_1)).trans hx325_1
                              have HR325_0 := Aside0.mk hi325_0
                              have HC325_0 := Aside0.mk hl325_0
                              clear hi325_0 hl325_0
                              have HR325_1 := Aside0.mk hi325_1
                              have HC325_1 := Aside0.mk hl325_1
                              clear hi325_1 hl325_1
                              replace p325 := eq_true p325
                              replace q325 := eq_true q325
                              go_wp2
                              go_meet
                              case rel => exact ⟨_, (decide (x5_4 < 20)), (by first | rfl | (simp; done) | (simp [*]; done)), H', ⟨by have := HK1.out; have := HK2.out; have := HJ13.out; have := HK4.out; first | omega | exact Nat.le_refl _⟩, ⟨by repeat (first | (with_reducible first | exact HB.out | apply below_alloc | apply pw_below_drewN | apply below_drew1) | exact HB.out)⟩⟩
                            · rw [if_neg c20] at H
                              have c20b0 : decide (x5_4 < (((rd_T27 l0 x4_2).f1).length : Int)) = false := decide_eq_false c20
                              clear c20
                              have H' := Aside0.mk H
                              clear H
                              have p325 : 0 ≤ (x4_2 : Int) := of_decide_eq_true (by first | (with_reducible assumption) | assumption)
                              have q325 : x4_2 < (l0.length : Int) := of_decide_eq_true (by first | (with_reducible assumption) | assumption)
                              obtain ⟨ad325, A325_0, c325_0, A325_1, c325_1, e325, hx325_0, hx325_1, hl325_0, hi325_0, hl325_1, hi325_1⟩ := at_T27 HR0.out x4_2 p325 q325
                              cases e325
                              replace hx325_0 := (HB.out.cell (World.block_lt_of_cell? w _ hx325_0)).trans hx325_0
                              replace hx325_1 := (HB.out.cell (World.block_lt_of_cell? w _ hx325_1)).trans hx325_1
                              have HR325_0 := Aside0.mk hi325_0
                              have HC325_0 := Aside0.mk hl325_0
                              clear hi325_0 hl325_0
                              have HR325_1 := Aside0.mk hi325_1
                              have HC325_1 := Aside0.mk hl325_1
                              clear hi325_1 hl325_1
                              replace p325 := eq_true p325
                              replace q325 := eq_true q325
                              go_wp2
                              go_meet
                              case rel => exact ⟨_, (false), (by first | rfl | (simp; done) | (simp [*]; done)), H', ⟨by have := HK1.out; have := HK2.out; have := HJ13.out; have := HK4.out; first | omega | exact Nat.le_refl _⟩, ⟨by repeat (first | (with_reducible first | exact HB.out | apply below_alloc | apply pw_below_drewN | apply below_drew1) | exact HB.out)⟩⟩
                          · rw [if_neg c19] at H
                            exact absurd H (by simp)
                        · rw [if_neg c18] at H
                          exact absurd H (by simp)
                      case rest =>
                        clear HC17
                        try clear c1
                        try clear c2
                        try clear c2b0
                        try clear p2
                        try clear c3
                        try clear p3
                        try clear q3
                        try clear hx3
                        try clear c5
                        try clear c5b0
                        try clear c5b1
                        try clear c5b2
                        try clear c6
                        try clear p6
                        try clear c11
                        try clear c12
                        try clear c15
                        try clear c15b0
                        try clear c16
                        try clear c18
                        try clear c18b0
                        try clear c19
                        try clear c19b0
                        try clear c20
                        try clear c20b0
                        try clear hx325_0
                        try clear hx325_1
                        try clear p2
                        try clear p325
                        try clear p6
                        try clear q325
                        obtain ⟨kq, x46_16, rfl, HA, HJ16, HB⟩ := hcut
                        cases kq with
                        | zero => exact absurd HA.out (by simp [gangwaylaw2_UtfOnes.j4])
                        | succ kj16 =>
                          have H := HA.out
                          clear HA
                          simp only [gangwaylaw2_UtfOnes.j4] at H
                          by_cases c21 : x46_16 = true
                          · subst c21
                            have H1 : (if 0 ≤ x4_2 then (if x4_2 < (l0.length : Int) then (if 0 ≤ x5_4 then (if x5_4 < (((rd_T27 l0 x4_2).f1).length : Int) then ((utf_Bytes.f kj16 (([rd ((rd_T27 l0 x4_2).f1) x5_4] : List Int))).bind fun bt331 => ((gangwaylaw2_num.f bt331.2).bind fun t335 => (if t335 = 0 then (if (rd ((rd_T27 l0 x4_2).f1) x5_4) ≥ 128 then (gangwaylaw2_UtfOnes.j5 kj16 l0 x4_2 x5_4 (rd ((rd_T27 l0 x4_2).f1) x5_4) bt331.1 2) else (gangwaylaw2_UtfOnes.j5 kj16 l0 x4_2 x5_4 (rd ((rd_T27 l0 x4_2).f1) x5_4) bt331.1 1)) else (if (rd ((rd_T27 l0 x4_2).f1) x5_4) ≥ 0 then (if (rd ((rd_T27 l0 x4_2).f1) x5_4) < 55296 then (some false) else (if (rd ((rd_T27 l0 x4_2).f1) x5_4) > 57343 then (if (rd ((rd_T27 l0 x4_2).f1) x5_4) ≤ 1114111 then (some false) else (gangwaylaw2_UtfOnes.l2 kj16 l0 x4_2 (wrap64 (x5_4 + 1)))) else (gangwaylaw2_UtfOnes.l2 kj16 l0 x4_2 (wrap64 (x5_4 + 1))))) else (if (rd ((rd_T27 l0 x4_2).f1) x5_4) > 57343 then (if (rd ((rd_T27 l0 x4_2).f1) x5_4) ≤ 1114111 then (some false) else (gangwaylaw2_UtfOnes.l2 kj16 l0 x4_2 (wrap64 (x5_4 + 1)))) else (gangwaylaw2_UtfOnes.l2 kj16 l0 x4_2 (wrap64 (x5_4 + 1)))))))) else (none)) else (none)) else (none)) else (none)) = some r := by rw [if_pos rfl] at H; exact H
                            clear H
                            have H := H1
                            clear H1
                            by_cases c22 : 0 ≤ x4_2
                            · rw [if_pos c22] at H
                              have c22b0 : decide (0 ≤ x4_2) = true := decide_eq_true c22
                              clear c22
                              by_cases c23 : x4_2 < (l0.length : Int)
                              · rw [if_pos c23] at H
                                have c23b0 : decide (x4_2 < (l0.length : Int)) = true := decide_eq_true c23
                                clear c23
                                by_cases c24 : 0 ≤ x5_4
                                · rw [if_pos c24] at H
                                  have c24b0 : decide (0 ≤ x5_4) = true := decide_eq_true c24
                                  clear c24
                                  by_cases c25 : x5_4 < (((rd_T27 l0 x4_2).f1).length : Int)
                                  · rw [if_pos c25] at H
                                    have c25b0 : decide (x5_4 < (((rd_T27 l0 x4_2).f1).length : Int)) = true := decide_eq_true c25
                                    clear c25
                                    obtain ⟨y328, hy328⟩ : ∃ y_ : List Int, y_ = (([rd ((rd_T27 l0 x4_2).f1) x5_4] : List Int)) := ⟨_, rfl⟩
                                    replace H : ((utf_Bytes.f kj16 y328).bind fun bt331 => ((gangwaylaw2_num.f bt331.2).bind fun t335 => (if t335 = 0 then (if (rd ((rd_T27 l0 x4_2).f1) x5_4) ≥ 128 then (gangwaylaw2_UtfOnes.j5 kj16 l0 x4_2 x5_4 (rd ((rd_T27 l0 x4_2).f1) x5_4) bt331.1 2) else (gangwaylaw2_UtfOnes.j5 kj16 l0 x4_2 x5_4 (rd ((rd_T27 l0 x4_2).f1) x5_4) bt331.1 1)) else (if (rd ((rd_T27 l0 x4_2).f1) x5_4) ≥ 0 then (if (rd ((rd_T27 l0 x4_2).f1) x5_4) < 55296 then (some false) else (if (rd ((rd_T27 l0 x4_2).f1) x5_4) > 57343 then (if (rd ((rd_T27 l0 x4_2).f1) x5_4) ≤ 1114111 then (some false) else (gangwaylaw2_UtfOnes.l2 kj16 l0 x4_2 (wrap64 (x5_4 + 1)))) else (gangwaylaw2_UtfOnes.l2 kj16 l0 x4_2 (wrap64 (x5_4 + 1))))) else (if (rd ((rd_T27 l0 x4_2).f1) x5_4) > 57343 then (if (rd ((rd_T27 l0 x4_2).f1) x5_4) ≤ 1114111 then (some false) else (gangwaylaw2_UtfOnes.l2 kj16 l0 x4_2 (wrap64 (x5_4 + 1)))) else (gangwaylaw2_UtfOnes.l2 kj16 l0 x4_2 (wrap64 (x5_4 + 1)))))))) = some r := by first | (rw [hy328]; with_reducible exact H) | (have H2_ := (Option.bind_some _ _).symm.trans H; rw [hy328]; with_reducible exact H2_) | (have H2_ := (Option.bind_some _ _).symm.trans H; with_reducible exact H2_) | with_reducible exact H | (rw [hy328]; exact H) | exact H
                                    have Ny328 := Aside0.mk hy328
                                    clear hy328
                                    replace H := Option.bind_eq_some_iff.mp H
                                    obtain ⟨⟨t331, t332⟩, A260, H⟩ := H
                                    replace H : ((gangwaylaw2_num.f t332).bind fun t335 => (if t335 = 0 then (if (rd ((rd_T27 l0 x4_2).f1) x5_4) ≥ 128 then (gangwaylaw2_UtfOnes.j5 kj16 l0 x4_2 x5_4 (rd ((rd_T27 l0 x4_2).f1) x5_4) t331 2) else (gangwaylaw2_UtfOnes.j5 kj16 l0 x4_2 x5_4 (rd ((rd_T27 l0 x4_2).f1) x5_4) t331 1)) else (if (rd ((rd_T27 l0 x4_2).f1) x5_4) ≥ 0 then (if (rd ((rd_T27 l0 x4_2).f1) x5_4) < 55296 then (some false) else (if (rd ((rd_T27 l0 x4_2).f1) x5_4) > 57343 then (if (rd ((rd_T27 l0 x4_2).f1) x5_4) ≤ 1114111 then (some false) else (gangwaylaw2_UtfOnes.l2 kj16 l0 x4_2 (wrap64 (x5_4 + 1)))) else (gangwaylaw2_UtfOnes.l2 kj16 l0 x4_2 (wrap64 (x5_4 + 1))))) else (if (rd ((rd_T27 l0 x4_2).f1) x5_4) > 57343 then (if (rd ((rd_T27 l0 x4_2).f1) x5_4) ≤ 1114111 then (some false) else (gangwaylaw2_UtfOnes.l2 kj16 l0 x4_2 (wrap64 (x5_4 + 1)))) else (gangwaylaw2_UtfOnes.l2 kj16 l0 x4_2 (wrap64 (x5_4 + 1))))))) = some r := H
                                    have A26 := Aside0.mk A260
                                    clear A260
                                    replace H := Option.bind_eq_some_iff.mp H
                                    obtain ⟨t335, A270, H⟩ := H
                                    replace H : (if t335 = 0 then (if (rd ((rd_T27 l0 x4_2).f1) x5_4) ≥ 128 then (gangwaylaw2_UtfOnes.j5 kj16 l0 x4_2 x5_4 (rd ((rd_T27 l0 x4_2).f1) x5_4) t331 2) else (gangwaylaw2_UtfOnes.j5 kj16 l0 x4_2 x5_4 (rd ((rd_T27 l0 x4_2).f1) x5_4) t331 1)) else (if (rd ((rd_T27 l0 x4_2).f1) x5_4) ≥ 0 then (if (rd ((rd_T27 l0 x4_2).f1) x5_4) < 55296 then (some false) else (if (rd ((rd_T27 l0 x4_2).f1) x5_4) > 57343 then (if (rd ((rd_T27 l0 x4_2).f1) x5_4) ≤ 1114111 then (some false) else (gangwaylaw2_UtfOnes.l2 kj16 l0 x4_2 (wrap64 (x5_4 + 1)))) else (gangwaylaw2_UtfOnes.l2 kj16 l0 x4_2 (wrap64 (x5_4 + 1))))) else (if (rd ((rd_T27 l0 x4_2).f1) x5_4) > 57343 then (if (rd ((rd_T27 l0 x4_2).f1) x5_4) ≤ 1114111 then (some false) else (gangwaylaw2_UtfOnes.l2 kj16 l0 x4_2 (wrap64 (x5_4 + 1)))) else (gangwaylaw2_UtfOnes.l2 kj16 l0 x4_2 (wrap64 (x5_4 + 1)))))) = some r := H
                                    have A27 := Aside0.mk A270
                                    clear A270
                                    by_cases c28 : t335 = 0
                                    · rw [if_pos c28] at H
                                      have c28b0 : (t335 == 0) = true := beq_iff_eq.mpr c28
                                      have c28b1 : (t335 != 0) = false := bne_eq_false_iff_eq.mpr c28
                                      clear c28
                                      have HC29 := Aside0.mk H
                                      clear H
                                      have p326 : 0 ≤ (x4_2 : Int) := of_decide_eq_true (by first | (with_reducible assumption) | assumption)
                                      have q326 : x4_2 < (l0.length : Int) := of_decide_eq_true (by first | (with_reducible assumption) | assumption)
                                      obtain ⟨ad326, A326_0, c326_0, A326_1, c326_1, e326, hx326_0, hx326_1, hl326_0, hi326_0, hl326_1, hi326_1⟩ := at_T27 HR0.out x4_2 p326 q326
                                      cases e326
                                      replace hx326_0 := (HB.out.cell (World.block_lt_of_cell? w _ hx326_0)).trans hx326_0
                                      replace hx326_1 := (HB.out.cell (World.block_lt_of_cell? w _ hx326_1)).trans hx326_1
                                      have HR326_0 := Aside0.mk hi326_0
                                      have HC326_0 := Aside0.mk hl326_0
                                      clear hi326_0 hl326_0
                                      have HR326_1 := Aside0.mk hi326_1
                                      have HC326_1 := Aside0.mk hl326_1
                                      clear hi326_1 hl326_1
                                      replace p326 := eq_true p326
                                      replace q326 := eq_true q326
                                      have p327 : 0 ≤ (x5_4 : Int) := of_decide_eq_true (by first | (with_reducible assumption) | assumption)
                                      have q327 : x5_4 < (((rd_T27 l0 x4_2).f1).length : Int) := of_decide_eq_true (by first | (with_reducible assumption) | assumption)
                                      obtain ⟨ad327, e327, hx327_0⟩ := Kd.at_int HR326_1.out x5_4 p327 q327
                                      cases e327
                                      replace hx327_0 := (HB.out.cell (World.block_lt_of_cell? w _ hx327_0)).trans hx327_0
                                      replace p327 := eq_true p327
                                      replace q327 := eq_true q327
                                      go_upto_if 81 with (first | ((with_reducible refine gate_dst (N := 59) rfl ?_); refine Kd.R_lit (Kd.int .i32) _ 21 ?hg (N := 59) ?hd (xs := ([rd ((rd_T27 l0 x4_2).f1) x5_4] : List Int)) (inner := [.int .i32 (rd ((rd_T27 l0 x4_2).f1) x5_4)]) (ok := fun _ => True) (okp := fun _ => True) ?hr ?hp (fun _ hk => hk) trivial (Below.refl _ _) (Nat.le_refl _) (by simp) ?_; (case hd => rfl); (case hg => rfl); (case hr => first | (go_simp; done) | (go_simp; rfl)); (case hp => exact (Reps.one (show Kd.M (Kd.int .i32) _ _ _ (rd ((rd_T27 l0 x4_2).f1) x5_4) [.int .i32 (rd ((rd_T27 l0 x4_2).f1) x5_4)] from rfl) (Reps.none _ _))); intro v329 w30 ho31 hb hg_ hnew_; clear hg_ hnew_; (first | rw [← Ny328.out] at ho31 | (simp only [Int.reduceToNat] at ho31; rw [← Ny328.out] at ho31)); have n0_ := Aside0.mk (Kd.R_lower ho31 (below_size (by repeat (first | (with_reducible first | exact HB.out | apply below_alloc | apply pw_below_drewN | apply below_drew1) | exact HB.out)))); have n1_ := Aside0.mk (below_step (by repeat (first | (with_reducible first | exact HB.out | apply below_alloc | apply pw_below_drewN | apply below_drew1) | exact HB.out)) hb); clear HB; have HO330 := n0_; have HB := n1_; clear n0_ n1_; clear hb ho31; obtain ⟨Ao32, co32, eo32⟩ := Kd.R_slice HO330.out; subst eo32) | ((with_reducible refine gate_callee (f := 19) rfl ?_); refine goesL_ (some 60) rfl rfl Try.func19 (by kernel_rfl) rfl #[.slice Ao32 y328.length co32] rfl (by (try simp only [List.map_toArray, List.map_cons, List.map_nil]); first | done | rfl | (simp only [List.length_drop, List.length_take]; rfl)) ?_; (with_reducible refine (utf_Bytes.calls kj16 _ _ y328 t331 t332 _ ?side1 ?side2 A26.out).mono ?_); (case side1 => repeat (first | exact (Kd.R_reads' HO330.out).2.2 | (with_reducible refine Kd.C_alloc ?_ _) | (with_reducible refine Kd.C_drewN ?_ _) | (with_reducible refine Kd.C_drew ?_))); (case side2 => exact (Kd.R_reads' HO330.out).2.1); rintro e w33 ⟨v333, rfl, ho0, hb⟩; refine ⟨_, rfl, ?_⟩; have n0_ := Aside0.mk (Kd.R_below (by (with_reducible repeat (first | apply Kd.R_alloc | apply Kd.R_drewN | apply Kd.R_drew)); exact HO330.out) hb); have n1_ := Aside0.mk (Kd.R_lower ho0 (below_size (by repeat (first | (with_reducible first | exact HB.out | apply below_alloc | apply pw_below_drewN | apply below_drew1) | exact HB.out)))); have n2_ := Aside0.mk (below_step (by repeat (first | (with_reducible first | exact HB.out | apply below_alloc | apply pw_below_drewN | apply below_drew1) | exact HB.out)) hb); clear HO330; clear HB; have HO330 := n0_; have HO334 := n1_; have HB := n2_; clear n0_ n1_ n2_; (try clear hb); (try clear hb2); (try clear hk); (try clear hi); (try clear ho0)) | ((with_reducible refine gate_callee (f := 11) rfl ?_); refine goesL_ (some 64) rfl rfl Try.func11 (by kernel_rfl) rfl #[.int .i64 t332] rfl (by (try simp only [List.map_toArray, List.map_cons, List.map_nil]); first | done | rfl | (simp only [List.length_drop, List.length_take]; rfl)) ?_; (with_reducible refine (gangwaylaw2_num.calls t332 t335 _ A27.out).mono ?_); rintro e w' ⟨rfl, ⟨nd, rfl⟩⟩; refine ⟨_, rfl, ?_⟩))
                                      (try simp only [Act.put, List.setIfInBounds_toArray, List.set_cons_zero, List.set_cons_succ])
                                      go_cut [9] (fun v9 wc => ∃ (kq : Nat) (x9_28 : Int), v9 = .int .i64 x9_28 ∧ Aside0 (gangwaylaw2_UtfOnes.j5 kq l0 x4_2 x5_4 (rd ((rd_T27 l0 x4_2).f1) x5_4) t331 x9_28 = some r) ∧ Aside0 (kq ≤ kj16) ∧ Aside0 (Kd.R (Kd.int .u8) 5 wc w.heap.size (fun _ => True) v333 t331) ∧ Aside0 (Below w.heap.size w wc))
                                      case first =>
                                        have H := HC29.out
                                        clear HC29
                                        by_cases c34 : (rd ((rd_T27 l0 x4_2).f1) x5_4) ≥ 128
                                        · rw [if_pos c34] at H
                                          have c34b0 : decide (128 ≤ (rd ((rd_T27 l0 x4_2).f1) x5_4)) = true := decide_eq_true c34
                                          clear c34
                                          (first | rw [c34b0] | (simp only [i64_w, i32_w]; rw [c34b0]) | skip)
                                          have H' := Aside0.mk H
                                          clear H
                                          go_wp2
                                          go_meet
                                          case rel => exact ⟨_, (2), (by first | rfl | (simp; done) | (simp [*]; done)), H', ⟨by have := HK1.out; have := HK2.out; have := HJ13.out; have := HK4.out; have := HJ16.out; first | omega | exact Nat.le_refl _⟩, ⟨by (with_reducible repeat (first | apply Kd.R_alloc | apply Kd.R_drewN | apply Kd.R_drew)); exact HO334.out⟩, ⟨by repeat (first | (with_reducible first | exact HB.out | apply below_alloc | apply pw_below_drewN | apply below_drew1) | exact HB.out)⟩⟩
                                        · rw [if_neg c34] at H
                                          have c34b0 : decide (128 ≤ (rd ((rd_T27 l0 x4_2).f1) x5_4)) = false := decide_eq_false c34
                                          clear c34
                                          (first | rw [c34b0] | (simp only [i64_w, i32_w]; rw [c34b0]) | skip)
                                          have H' := Aside0.mk H
                                          clear H
                                          go_wp2
                                          go_meet
                                          case rel => exact ⟨_, (1), (by first | rfl | (simp; done) | (simp [*]; done)), H', ⟨by have := HK1.out; have := HK2.out; have := HJ13.out; have := HK4.out; have := HJ16.out; first | omega | exact Nat.le_refl _⟩, ⟨by (with_reducible repeat (first | apply Kd.R_alloc | apply Kd.R_drewN | apply Kd.R_drew)); exact HO334.out⟩, ⟨by repeat (first | (with_reducible first | exact HB.out | apply below_alloc | apply pw_below_drewN | apply below_drew1) | exact HB.out)⟩⟩
                                      case rest =>
                                        clear HC29
                                        try clear c1
                                        try clear c2
                                        try clear c2b0
                                        try clear p2
                                        try clear c3
                                        try clear p3
                                        try clear q3
                                        try clear hx3
                                        try clear c5
                                        try clear c5b0
                                        try clear c5b1
                                        try clear c5b2
                                        try clear c6
                                        try clear p6
                                        try clear c11
                                        try clear c12
                                        try clear c15
                                        try clear c15b0
                                        try clear c16
                                        try clear c18
                                        try clear c18b0
                                        try clear c19
                                        try clear c19b0
                                        try clear c20
                                        try clear c20b0
                                        try clear c21
                                        try clear c22
                                        try clear c22b0
                                        try clear c23
                                        try clear c23b0
                                        try clear c24
                                        try clear c24b0
                                        try clear c25
                                        try clear c25b0
                                        try clear c28
                                        try clear c28b0
                                        try clear c28b1
                                        try clear c32
                                        try clear p32
                                        try clear q32
                                        try clear hx32
                                        try clear c34
                                        try clear c34b0
                                        try clear hx325_0
                                        try clear hx325_1
                                        try clear hx326_0
                                        try clear hx326_1
                                        try clear hx327_0
                                        try clear p2
                                        try clear p3
                                        try clear p325
                                        try clear p326
                                        try clear p327
                                        try clear p6
                                        try clear q3
                                        try clear q325
                                        try clear q326
                                        try clear q327
                                        obtain ⟨kq, x9_28, rfl, HA, HJ28, HO_7, HB⟩ := hcut
                                        cases kq with
                                        | zero => exact absurd HA.out (by simp [gangwaylaw2_UtfOnes.j5])
                                        | succ kj28 =>
                                          have H := HA.out
                                          clear HA
                                          simp only [gangwaylaw2_UtfOnes.j5] at H
                                          have HC35 := Aside0.mk H
                                          clear H
                                          go_upto_if 83 with (fail)
                                          go_cut [9] (fun v9 wc => ∃ (kq : Nat) (x9_34 : Int), v9 = .int .i64 x9_34 ∧ Aside0 (gangwaylaw2_UtfOnes.j6 kq l0 x4_2 x5_4 (rd ((rd_T27 l0 x4_2).f1) x5_4) t331 x9_34 = some r) ∧ Aside0 (kq ≤ kj28) ∧ Aside0 (Kd.R (Kd.int .u8) 5 wc w.heap.size (fun _ => True) v333 t331) ∧ Aside0 (Below w.heap.size w wc))
                                          case first =>
                                            have H := HC35.out
                                            clear HC35
                                            by_cases c36 : (rd ((rd_T27 l0 x4_2).f1) x5_4) ≥ 2048
                                            · rw [if_pos c36] at H
                                              have c36b0 : decide (2048 ≤ (rd ((rd_T27 l0 x4_2).f1) x5_4)) = true := decide_eq_true c36
                                              clear c36
                                              (first | rw [c36b0] | (simp only [i64_w, i32_w]; rw [c36b0]) | skip)
                                              have H' := Aside0.mk H
                                              clear H
                                              go_wp2
                                              go_meet
                                              case rel => exact ⟨_, (3), (by first | rfl | (simp; done) | (simp [*]; done)), H', ⟨by have := HK1.out; have := HK2.out; have := HJ13.out; have := HK4.out; have := HJ16.out; have := HJ28.out; first | omega | exact Nat.le_refl _⟩, ⟨by (with_reducible repeat (first | apply Kd.R_alloc | apply Kd.R_drewN | apply Kd.R_drew)); exact HO_7.out⟩, ⟨by repeat (first | (with_reducible first | exact HB.out | apply below_alloc | apply pw_below_drewN | apply below_drew1) | exact HB.out)⟩⟩
                                            · rw [if_neg c36] at H
                                              have c36b0 : decide (2048 ≤ (rd ((rd_T27 l0 x4_2).f1) x5_4)) = false := decide_eq_false c36
                                              clear c36
                                              (first | rw [c36b0] | (simp only [i64_w, i32_w]; rw [c36b0]) | skip)
                                              have H' := Aside0.mk H
                                              clear H
                                              go_wp2
                                              go_meet
                                              case rel => exact ⟨_, (x9_28), (by first | rfl | (simp; done) | (simp [*]; done)), H', ⟨by have := HK1.out; have := HK2.out; have := HJ13.out; have := HK4.out; have := HJ16.out; have := HJ28.out; first | omega | exact Nat.le_refl _⟩, ⟨by (with_reducible repeat (first | apply Kd.R_alloc | apply Kd.R_drewN | apply Kd.R_drew)); exact HO_7.out⟩, ⟨by repeat (first | (with_reducible first | exact HB.out | apply below_alloc | apply pw_below_drewN | apply below_drew1) | exact HB.out)⟩⟩
                                          case rest =>
                                            clear HC35
                                            try clear c1
                                            try clear c2
                                            try clear c2b0
                                            try clear p2
                                            try clear c3
                                            try clear p3
                                            try clear q3
                                            try clear hx3
                                            try clear c5
                                            try clear c5b0
                                            try clear c5b1
                                            try clear c5b2
                                            try clear c6
                                            try clear p6
                                            try clear c11
                                            try clear c12
                                            try clear c15
                                            try clear c15b0
                                            try clear c16
                                            try clear c18
                                            try clear c18b0
                                            try clear c19
                                            try clear c19b0
                                            try clear c20
                                            try clear c20b0
                                            try clear c21
                                            try clear c22
                                            try clear c22b0
                                            try clear c23
                                            try clear c23b0
                                            try clear c24
                                            try clear c24b0
                                            try clear c25
                                            try clear c25b0
                                            try clear c28
                                            try clear c28b0
                                            try clear c28b1
                                            try clear c32
                                            try clear p32
                                            try clear q32
                                            try clear hx32
                                            try clear c34
                                            try clear c34b0
                                            try clear c36
                                            try clear c36b0
                                            try clear hx325_0
                                            try clear hx325_1
                                            try clear hx326_0
                                            try clear hx326_1
                                            try clear hx327_0
                                            try clear p2
                                            try clear p3
                                            try clear p32
                                            try clear p325
                                            try clear p326
                                            try clear p327
                                            try clear p6
                                            try clear q3
                                            try clear q32
                                            try clear q325
                                            try clear q326
                                            try clear q327
                                            obtain ⟨kq, x9_34, rfl, HA, HJ34, HO_7, HB⟩ := hcut
                                            cases kq with
                                            | zero => exact absurd HA.out (by simp [gangwaylaw2_UtfOnes.j6])
                                            | succ kj34 =>
                                              have H := HA.out
                                              clear HA
                                              simp only [gangwaylaw2_UtfOnes.j6] at H
                                              have HC37 := Aside0.mk H
                                              clear H
                                              go_upto_if 85 with (fail)
                                              go_cut [9] (fun v9 wc => ∃ (kq : Nat) (x9_36 : Int), v9 = .int .i64 x9_36 ∧ Aside0 (gangwaylaw2_UtfOnes.j7 kq l0 x4_2 x5_4 t331 x9_36 = some r) ∧ Aside0 (kq ≤ kj34) ∧ Aside0 (Kd.R (Kd.int .u8) 5 wc w.heap.size (fun _ => True) v333 t331) ∧ Aside0 (Below w.heap.size w wc))
                                              case first =>
                                                have H := HC37.out
                                                clear HC37
                                                by_cases c38 : (rd ((rd_T27 l0 x4_2).f1) x5_4) ≥ 65536
                                                · rw [if_pos c38] at H
                                                  have c38b0 : decide (65536 ≤ (rd ((rd_T27 l0 x4_2).f1) x5_4)) = true := decide_eq_true c38
                                                  clear c38
                                                  (first | rw [c38b0] | (simp only [i64_w, i32_w]; rw [c38b0]) | skip)
                                                  have H' := Aside0.mk H
                                                  clear H
                                                  go_wp2
                                                  go_meet
                                                  case rel => exact ⟨_, (4), (by first | rfl | (simp; done) | (simp [*]; done)), H', ⟨by have := HK1.out; have := HK2.out; have := HJ13.out; have := HK4.out; have := HJ16.out; have := HJ28.out; have := HJ34.out; first | omega | exact Nat.le_refl _⟩, ⟨by (with_reducible repeat (first | apply Kd.R_alloc | apply Kd.R_drewN | apply Kd.R_drew)); exact HO_7.out⟩, ⟨by repeat (first | (with_reducible first | exact HB.out | apply below_alloc | apply pw_below_drewN | apply below_drew1) | exact HB.out)⟩⟩
                                                · rw [if_neg c38] at H
                                                  have c38b0 : decide (65536 ≤ (rd ((rd_T27 l0 x4_2).f1) x5_4)) = false := decide_eq_false c38
                                                  clear c38
                                                  (first | rw [c38b0] | (simp only [i64_w, i32_w]; rw [c38b0]) | skip)
                                                  have H' := Aside0.mk H
                                                  clear H
                                                  go_wp2
                                                  go_meet
                                                  case rel => exact ⟨_, (x9_34), (by first | rfl | (simp; done) | (simp [*]; done)), H', ⟨by have := HK1.out; have := HK2.out; have := HJ13.out; have := HK4.out; have := HJ16.out; have := HJ28.out; have := HJ34.out; first | omega | exact Nat.le_refl _⟩, ⟨by (with_reducible repeat (first | apply Kd.R_alloc | apply Kd.R_drewN | apply Kd.R_drew)); exact HO_7.out⟩, ⟨by repeat (first | (with_reducible first | exact HB.out | apply below_alloc | apply pw_below_drewN | apply below_drew1) | exact HB.out)⟩⟩
                                              case rest =>
                                                clear HC37
                                                try clear c1
                                                try clear c2
                                                try clear c2b0
                                                try clear p2
                                                try clear c3
                                                try clear p3
                                                try clear q3
                                                try clear hx3
                                                try clear c5
                                                try clear c5b0
                                                try clear c5b1
                                                try clear c5b2
                                                try clear c6
                                                try clear p6
                                                try clear c11
                                                try clear c12
                                                try clear c15
                                                try clear c15b0
                                                try clear c16
                                                try clear c18
                                                try clear c18b0
                                                try clear c19
                                                try clear c19b0
                                                try clear c20
                                                try clear c20b0
                                                try clear c21
                                                try clear c22
                                                try clear c22b0
                                                try clear c23
                                                try clear c23b0
                                                try clear c24
                                                try clear c24b0
                                                try clear c25
                                                try clear c25b0
                                                try clear c28
                                                try clear c28b0
                                                try clear c28b1
                                                try clear c32
                                                try clear p32
                                                try clear q32
                                                try clear hx32
                                                try clear c34
                                                try clear c34b0
                                                try clear c36
                                                try clear c36b0
                                                try clear c38
                                                try clear c38b0
                                                try clear hx325_0
                                                try clear hx325_1
                                                try clear hx326_0
                                                try clear hx326_1
                                                try clear hx327_0
                                                try clear p2
                                                try clear p3
                                                try clear p32
                                                try clear p325
                                                try clear p326
                                                try clear p327
                                                try clear p6
                                                try clear q3
                                                try clear q32
                                                try clear q325
                                                try clear q326
                                                try clear q327
                                                obtain ⟨kq, x9_36, rfl, HA, HJ36, HO_7, HB⟩ := hcut
                                                cases kq with
                                                | zero => exact absurd HA.out (by simp [gangwaylaw2_UtfOnes.j7])
                                                | succ kj36 =>
                                                  have H := HA.out
                                                  clear HA
                                                  simp only [gangwaylaw2_UtfOnes.j7] at H
                                                  have HC39 := Aside0.mk H
                                                  clear H
                                                  go_upto_region 24 with (fail)
                                                  go_cut [100] (fun v100 wc => ∃ (kq : Nat) (x100_38 : Bool), v100 = .bool x100_38 ∧ Aside0 (gangwaylaw2_UtfOnes.j8 kq l0 x4_2 x5_4 t331 x9_36 x100_38 = some r) ∧ Aside0 (kq ≤ kj36) ∧ Aside0 (Kd.R (Kd.int .u8) 5 wc w.heap.size (fun _ => True) v333 t331) ∧ Aside0 (Below w.heap.size w wc))
                                                  case first =>
                                                    have H := HC39.out
                                                    clear HC39
                                                    by_cases c40 : (t331.length : Int) = x9_36
                                                    · rw [if_pos c40] at H
                                                      have c40b0 : ((t331.length : Int) == x9_36) = true := beq_iff_eq.mpr c40
                                                      have c40b1 : ((t331.length : Int) != x9_36) = false := bne_eq_false_iff_eq.mpr c40
                                                      clear c40
                                                      (first | rw [c40b0] | (simp only [i64_w, i32_w]; rw [c40b0]) | skip)
                                                      by_cases c41 : x9_36 > 1
                                                      · rw [if_pos c41] at H
                                                        have c41b0 : decide (1 < x9_36) = true := decide_eq_true c41
                                                        clear c41
                                                        by_cases c42 : 1 ≤ (t331.length : Int)
                                                        · rw [if_pos c42] at H
                                                          have c42b0 := eq_true c42
                                                          have c42b1 : decide (1 ≤ (t331.length : Int)) = true := decide_eq_true c42
                                                          clear c42
                                                          obtain ⟨y336, hy336⟩ : ∃ y_ : List Int, y_ = (t331.drop 1) := ⟨_, rfl⟩
                                                          replace H : ((utf_Check.f kj36 y336).bind fun t340 => ((gangwaylaw2_num.f t340).bind fun t341 => (gangwaylaw2_UtfOnes.j8 kj36 l0 x4_2 x5_4 t331 x9_36 (t341 != 100)))) = some r := by first | (rw [hy336]; with_reducible exact H) | (have H2_ := (Option.bind_some _ _).symm.trans H; rw [hy336]; with_reducible exact H2_) | (have H2_ := (Option.bind_some _ _).symm.trans H; with_reducible exact H2_) | with_reducible exact H | (rw [hy336]; exact H) | exact H
                                                          have Ny336 := Aside0.mk hy336
                                                          clear hy336
                                                          replace H := Option.bind_eq_some_iff.mp H
                                                          obtain ⟨t340, A430, H⟩ := H
                                                          replace H : ((gangwaylaw2_num.f t340).bind fun t341 => (gangwaylaw2_UtfOnes.j8 kj36 l0 x4_2 x5_4 t331 x9_36 (t341 != 100))) = some r := H
                                                          have A43 := Aside0.mk A430
                                                          clear A430
                                                          replace H := Option.bind_eq_some_iff.mp H
                                                          obtain ⟨t341, A440, H⟩ := H
                                                          replace H : (gangwaylaw2_UtfOnes.j8 kj36 l0 x4_2 x5_4 t331 x9_36 (t341 != 100)) = some r := H
                                                          have A44 := Aside0.mk A440
                                                          clear A440
                                                          have H' := Aside0.mk H
                                                          clear H
                                                          obtain ⟨Ao45, co45, eo45⟩ := Kd.R_slice HO_7.out
                                                          subst eo45
                                                          have q46 : (1 : Int) ≤ ((t331.length : Int) : Int) := of_decide_eq_true (by first | (with_reducible assumption) | assumption)
                                                          obtain ⟨i046, hi046, _, hsz46, _⟩ := info_parts info5
                                                          have hroom46 : t331.length ≤ co45 := (Kd.R_reads' HO_7.out).2.1
                                                          have hC46 : Kd.C (Kd.int .u8) _ Ao45 t331.length t331 := (Kd.R_reads' HO_7.out).2.2
                                                          have hcut46 := cut_from (P := Try.prog) 24 5 .i64 Try.underlying24 hi046 1 hsz46 Ao45 t331.length co45 1 (by omega) q46
                                                          have hr46 := Kd.C_drop (m := (1 : Int).toNat) (c := co45) hC46 (by omega) hroom46
                                                          obtain ⟨A46, hA46⟩ : ∃ A1, A1 = (if co45 = (1 : Int).toNat then Ao45 else (Ao45 : Option Addr).map (·.add ((1 : Int).toNat * 1))) := ⟨_, rfl⟩
                                                          obtain ⟨c46, hc46⟩ : ∃ c1, c1 = co45 - (1 : Int).toNat := ⟨_, rfl⟩
                                                          have hy46 : y336.length = t331.length - (1 : Int).toNat := (by rw [Ny336.out, List.length_drop] <;> omega)
                                                          rw [show (t331).drop (1 : Int).toNat = y336 from Ny336.out.symm] at hr46
                                                          replace hr46 : Kd.C (Kd.int .u8) _ A46 y336.length y336 := (by rw [hA46]; exact hr46)
                                                          rw [← hy46, ← hA46, ← hc46] at hcut46
                                                          have HR339 := Aside0.mk hr46
                                                          have HC339 := Aside0.mk (show y336.length ≤ c46 from by rw [hy46, hc46]; exact Nat.sub_le_sub_right hroom46 _)
                                                          clear hr46 hC46 hroom46 hi046 hsz46 hc46
                                                          have KY46 := Aside0.mk hy46
                                                          have KA46 := Aside0.mk hA46
                                                          clear hy46 hA46
                                                          have KL46 := Aside0.mk (show 1 ≤ t331.length from by omega)
                                                          replace q46 := eq_true q46
                                                          go_wp2_with (first | (go_at_call 12; (with_reducible refine (utf_Check.calls kj36 _ _ y336 t340 _ ?side1 ?side2 A43.out).mono ?_); (case side1 => repeat (first | exact (by repeat (first | (with_reducible exact HR339.out) | (with_reducible refine Kd.C_alloc ?_ _) | (with_reducible refine Kd.C_drewN ?_ _) | (with_reducible refine Kd.C_drew ?_) | exact HR339.out)) | (with_reducible refine Kd.C_alloc ?_ _) | (with_reducible refine Kd.C_drewN ?_ _) | (with_reducible refine Kd.C_drew ?_))); (case side2 => exact HC339.out); rintro e w47 ⟨rfl, hb⟩; have n0_ := Aside0.mk (Kd.R_below (by (with_reducible repeat (first | apply Kd.R_alloc | apply Kd.R_drewN | apply Kd.R_drew)); exact HO_7.out) hb); have n1_ := Aside0.mk (Kd.C_below (by repeat (first | (with_reducible exact HR339.out) | (with_reducible refine Kd.C_alloc ?_ _) | (with_reducible refine Kd.C_drewN ?_ _) | (with_reducible refine Kd.C_drew ?_) | exact HR339.out)) hb); have n2_ := Aside0.mk (below_step (by repeat (first | (with_reducible first | exact HB.out | apply below_alloc | apply pw_below_drewN | apply below_drew1) | exact HB.out)) hb); clear HO_7; clear HR339; clear HB; have HO_7 := n0_; have HR339 := n1_; have HB := n2_; clear n0_ n1_ n2_; (try clear hb); (try clear hb2); (try clear hk); (try clear hi)) | (go_at_call 11; (with_reducible refine (gangwaylaw2_num.calls t340 t341 _ A44.out).mono ?_); rintro e w' ⟨rfl, ⟨nd, rfl⟩⟩))
                                                          go_meet
                                                          case rel => exact ⟨_, ((t341 != 100)), (by first | rfl | (simp; done) | (simp [*]; done)), H', ⟨by have := HK1.out; have := HK2.out; have := HJ13.out; have := HK4.out; have := HJ16.out; have := HJ28.out; have := HJ34.out; have := HJ36.out; first | omega | exact Nat.le_refl _⟩, ⟨by (with_reducible repeat (first | apply Kd.R_alloc | apply Kd.R_drewN | apply Kd.R_drew)); exact HO_7.out⟩, ⟨by repeat (first | (with_reducible first | exact HB.out | apply below_alloc | apply pw_below_drewN | apply below_drew1) | exact HB.out)⟩⟩
                                                        · rw [if_neg c42] at H
                                                          exact absurd H (by simp)
                                                      · rw [if_neg c41] at H
                                                        have c41b0 : decide (1 < x9_36) = false := decide_eq_false c41
                                                        clear c41
                                                        have H' := Aside0.mk H
                                                        clear H
                                                        obtain ⟨Ao48, co48, eo48⟩ := Kd.R_slice HO_7.out
                                                        subst eo48
                                                        go_wp2
                                                        go_meet
                                                        case rel => exact ⟨_, (false), (by first | rfl | (simp; done) | (simp [*]; done)), H', ⟨by have := HK1.out; have := HK2.out; have := HJ13.out; have := HK4.out; have := HJ16.out; have := HJ28.out; have := HJ34.out; have := HJ36.out; first | omega | exact Nat.le_refl _⟩, ⟨by (with_reducible repeat (first | apply Kd.R_alloc | apply Kd.R_drewN | apply Kd.R_drew)); exact HO_7.out⟩, ⟨by repeat (first | (with_reducible first | exact HB.out | apply below_alloc | apply pw_below_drewN | apply below_drew1) | exact HB.out)⟩⟩
                                                    · rw [if_neg c40] at H
                                                      have c40b0 : ((t331.length : Int) == x9_36) = false := beq_eq_false_iff_ne.mpr c40
                                                      have c40b1 : ((t331.length : Int) != x9_36) = true := bne_iff_ne.mpr c40
                                                      (first | rw [c40b0] | (simp only [i64_w, i32_w]; rw [c40b0]) | skip)
                                                      have H' := Aside0.mk H
                                                      clear H
                                                      obtain ⟨Ao49, co49, eo49⟩ := Kd.R_slice HO_7.out
                                                      subst eo49
                                                      go_wp2
                                                      go_meet
                                                      case rel => exact ⟨_, (true), (by first | rfl | (simp; done) | (simp [*]; done)), H', ⟨by have := HK1.out; have := HK2.out; have := HJ13.out; have := HK4.out; have := HJ16.out; have := HJ28.out; have := HJ34.out; have := HJ36.out; first | omega | exact Nat.le_refl _⟩, ⟨by (with_reducible repeat (first | apply Kd.R_alloc | apply Kd.R_drewN | apply Kd.R_drew)); exact HO_7.out⟩, ⟨by repeat (first | (with_reducible first | exact HB.out | apply below_alloc | apply pw_below_drewN | apply below_drew1) | exact HB.out)⟩⟩
                                                  case rest =>
                                                    clear HC39
                                                    try clear c1
                                                    try clear c2
                                                    try clear c2b0
                                                    try clear p2
                                                    try clear c3
                                                    try clear p3
                                                    try clear q3
                                                    try clear hx3
                                                    try clear c4
                                                    try clear q4
                                                    try clear c5
                                                    try clear c5b0
                                                    try clear c5b1
                                                    try clear c5b2
                                                    try clear c6
                                                    try clear p6
                                                    try clear c11
                                                    try clear c12
                                                    try clear c15
                                                    try clear c15b0
                                                    try clear c16
                                                    try clear c18
                                                    try clear c18b0
                                                    try clear c19
                                                    try clear c19b0
                                                    try clear c20
                                                    try clear c20b0
                                                    try clear c21
                                                    try clear c22
                                                    try clear c22b0
                                                    try clear c23
                                                    try clear c23b0
                                                    try clear c24
                                                    try clear c24b0
                                                    try clear c25
                                                    try clear c25b0
                                                    try clear c28
                                                    try clear c28b0
                                                    try clear c28b1
                                                    try clear c32
                                                    try clear p32
                                                    try clear q32
                                                    try clear hx32
                                                    try clear c34
                                                    try clear c34b0
                                                    try clear c36
                                                    try clear c36b0
                                                    try clear c38
                                                    try clear c38b0
                                                    try clear c40
                                                    try clear c40b0
                                                    try clear c40b1
                                                    try clear c41
                                                    try clear c41b0
                                                    try clear c42
                                                    try clear c42b0
                                                    try clear c42b1
                                                    try clear c46
                                                    try clear q46
                                                    try clear hx325_0
                                                    try clear hx325_1
                                                    try clear hx326_0
                                                    try clear hx326_1
                                                    try clear hx327_0
                                                    try clear p2
                                                    try clear p3
                                                    try clear p32
                                                    try clear p325
                                                    try clear p326
                                                    try clear p327
                                                    try clear p6
                                                    try clear q3
                                                    try clear q32
                                                    try clear q325
                                                    try clear q326
                                                    try clear q327
                                                    try clear q46
                                                    obtain ⟨kq, x100_38, rfl, HA, HJ38, HO_7, HB⟩ := hcut
                                                    cases kq with
                                                    | zero => exact absurd HA.out (by simp [gangwaylaw2_UtfOnes.j8])
                                                    | succ kj38 =>
                                                      have H := HA.out
                                                      clear HA
                                                      simp only [gangwaylaw2_UtfOnes.j8] at H
                                                      by_cases c50 : x100_38 = true
                                                      · subst c50
                                                        have H1 : (some false) = some r := by rw [if_pos rfl] at H; exact H
                                                        clear H
                                                        have H := H1
                                                        clear H1
                                                        obtain rfl := Option.some.inj H
                                                        go_wp2
                                                        go_ret
                                                        exact ⟨by first | rfl | (simp [errW_none, errW_some] <;> rfl) | (simp [*, errW_none, errW_some] <;> rfl), by repeat (first | (with_reducible first | exact HB.out | apply below_alloc | apply pw_below_drewN | apply below_drew1) | exact HB.out)⟩
                                                      · replace c50 := Bool.eq_false_iff.mpr c50
                                                        subst c50
                                                        have H1 : (gangwaylaw2_UtfOnes.l3 kj38 l0 x4_2 x5_4 t331 x9_36 1) = some r := by rw [if_neg (show ¬ (false = true) by decide)] at H; exact H
                                                        clear H
                                                        have H := H1
                                                        clear H1
                                                        have H' := Aside0.mk H
                                                        clear H
                                                        go_wp2
                                                        go_loopg [10] kj38 (fun kq v10 w' => ∃ (x7_10 : List Int) (x10_10 : Int), v10 = .int .i64 x10_10 ∧ Aside0 (gangwaylaw2_UtfOnes.l3 kq l0 x4_2 x5_4 x7_10 x9_36 x10_10 = some r) ∧ Aside0 (kq ≤ kj38) ∧ Aside0 (Kd.R (Kd.int .u8) 5 w' w.heap.size (fun _ => True) v333 x7_10) ∧ Aside0 (Below w.heap.size w w'))
                                                        case atStart => exact ⟨(t331), (1), (by first | rfl | (simp; done) | (simp [*]; done)), H', ⟨Nat.le_refl _⟩, ⟨by (with_reducible repeat (first | apply Kd.R_alloc | apply Kd.R_drewN | apply Kd.R_drew)); exact HO_7.out⟩, ⟨by repeat (first | (with_reducible first | exact HB.out | apply below_alloc | apply pw_below_drewN | apply below_drew1) | exact HB.out)⟩⟩
                                                        case round =>
                                                          clear H'
                                                          try clear c1
                                                          try clear c2
                                                          try clear c2b0
                                                          try clear p2
                                                          try clear c3
                                                          try clear p3
                                                          try clear q3
                                                          try clear hx3
                                                          try clear c4
                                                          try clear q4
                                                          try clear c5
                                                          try clear c5b0
                                                          try clear c5b1
                                                          try clear c5b2
                                                          try clear c6
                                                          try clear p6
                                                          try clear c11
                                                          try clear c12
                                                          try clear c15
                                                          try clear c15b0
                                                          try clear c16
                                                          try clear c18
                                                          try clear c18b0
                                                          try clear c19
                                                          try clear c19b0
                                                          try clear c20
                                                          try clear c20b0
                                                          try clear c21
                                                          try clear c22
                                                          try clear c22b0
                                                          try clear c23
                                                          try clear c23b0
                                                          try clear c24
                                                          try clear c24b0
                                                          try clear c25
                                                          try clear c25b0
                                                          try clear c28
                                                          try clear c28b0
                                                          try clear c28b1
                                                          try clear c32
                                                          try clear p32
                                                          try clear q32
                                                          try clear hx32
                                                          try clear c34
                                                          try clear c34b0
                                                          try clear c36
                                                          try clear c36b0
                                                          try clear c38
                                                          try clear c38b0
                                                          try clear c40
                                                          try clear c40b0
                                                          try clear c40b1
                                                          try clear c41
                                                          try clear c41b0
                                                          try clear c42
                                                          try clear c42b0
                                                          try clear c42b1
                                                          try clear c46
                                                          try clear q46
                                                          try clear c50
                                                          try clear hx325_0
                                                          try clear hx325_1
                                                          try clear hx326_0
                                                          try clear hx326_1
                                                          try clear hx327_0
                                                          try clear p2
                                                          try clear p3
                                                          try clear p32
                                                          try clear p325
                                                          try clear p326
                                                          try clear p327
                                                          try clear p6
                                                          try clear q3
                                                          try clear q32
                                                          try clear q325
                                                          try clear q326
                                                          try clear q327
                                                          try clear q4
                                                          try clear q46
                                                          obtain ⟨x7_10, x10_10, rfl, HA, HK10, HO_7, HB⟩ := hrel
                                                          cases gk with
                                                          | zero => exact absurd HA.out (by simp [gangwaylaw2_UtfOnes.l3])
                                                          | succ k10 =>
                                                            have H := HA.out
                                                            clear HA
                                                            simp only [gangwaylaw2_UtfOnes.l3] at H
                                                            by_cases c51 : x10_10 < x9_36
                                                            · rw [if_pos c51] at H
                                                              have c51b0 : decide (x10_10 < x9_36) = true := decide_eq_true c51
                                                              clear c51
                                                              replace H := Option.bind_eq_some_iff.mp H
                                                              obtain ⟨t342, A520, H⟩ := H
                                                              replace H : (if 0 ≤ x10_10 then (if x10_10 < (t342.length : Int) then ((utf_Check.f k10 (t342.set (x10_10 : Int).toNat (Go.bits .xor .u8 (rd t342 x10_10) 128))).bind fun t347 => ((gangwaylaw2_num.f t347).bind fun t348 => (if t348 = 100 then (gangwaylaw2_UtfOnes.l3 k10 l0 x4_2 x5_4 x7_10 x9_36 (wrap64 (x10_10 + 1))) else (some false)))) else (none)) else (none)) = some r := H
                                                              have A52 := Aside0.mk A520
                                                              clear A520
                                                              by_cases c53 : 0 ≤ x10_10
                                                              · rw [if_pos c53] at H
                                                                have c53b0 : decide (0 ≤ x10_10) = true := decide_eq_true c53
                                                                clear c53
                                                                by_cases c54 : x10_10 < (t342.length : Int)
                                                                · rw [if_pos c54] at H
                                                                  have c54b0 : decide (x10_10 < (t342.length : Int)) = true := decide_eq_true c54
                                                                  clear c54
                                                                  obtain ⟨y346, hy346⟩ : ∃ y_ : List Int, y_ = (t342.set (x10_10 : Int).toNat (Go.bits .xor .u8 (rd t342 x10_10) 128)) := ⟨_, rfl⟩
                                                                  replace H : ((utf_Check.f k10 y346).bind fun t347 => ((gangwaylaw2_num.f t347).bind fun t348 => (if t348 = 100 then (gangwaylaw2_UtfOnes.l3 k10 l0 x4_2 x5_4 x7_10 x9_36 (wrap64 (x10_10 + 1))) else (some false)))) = some r := by first | (rw [hy346]; with_reducible exact H) | (have H2_ := (Option.bind_some _ _).symm.trans H; rw [hy346]; with_reducible exact H2_) | (have H2_ := (Option.bind_some _ _).symm.trans H; with_reducible exact H2_) | with_reducible exact H | (rw [hy346]; exact H) | exact H
                                                                  have Ny346 := Aside0.mk hy346
                                                                  clear hy346
                                                                  replace H := Option.bind_eq_some_iff.mp H
                                                                  obtain ⟨t347, A560, H⟩ := H
                                                                  replace H : ((gangwaylaw2_num.f t347).bind fun t348 => (if t348 = 100 then (gangwaylaw2_UtfOnes.l3 k10 l0 x4_2 x5_4 x7_10 x9_36 (wrap64 (x10_10 + 1))) else (some false))) = some r := H
                                                                  have A56 := Aside0.mk A560
                                                                  clear A560
                                                                  replace H := Option.bind_eq_some_iff.mp H
                                                                  obtain ⟨t348, A570, H⟩ := H
                                                                  replace H : (if t348 = 100 then (gangwaylaw2_UtfOnes.l3 k10 l0 x4_2 x5_4 x7_10 x9_36 (wrap64 (x10_10 + 1))) else (some false)) = some r := H
                                                                  have A57 := Aside0.mk A570
                                                                  clear A570
                                                                  by_cases c58 : t348 = 100
                                                                  · rw [if_pos c58] at H
                                                                    have c58b0 : (t348 == 100) = true := beq_iff_eq.mpr c58
                                                                    have c58b1 : (t348 != 100) = false := bne_eq_false_iff_eq.mpr c58
                                                                    clear c58
                                                                    have H' := Aside0.mk H
                                                                    clear H
                                                                    obtain ⟨Ao59, co59, eo59⟩ := Kd.R_slice HO_7.out
                                                                    subst eo59
                                                                    go_wp2_with (first | ((with_reducible refine gate_callee (f := 8) rfl ?_); refine goesL_ (some 107) rfl rfl Try.func8 (by kernel_rfl) rfl #[.slice Ao59 x7_10.length co59] rfl (by (try simp only [List.map_toArray, List.map_cons, List.map_nil]); first | done | rfl | (simp only [List.length_drop, List.length_take]; rfl)) ?_; (with_reducible refine (gangwayref0_CopyBytes.calls k10 _ _ x7_10 t342 _ ?side1 ?side2 A52.out).mono ?_); (case side1 => repeat (first | exact (Kd.R_reads' HO_7.out).2.2 | (with_reducible refine Kd.C_alloc ?_ _) | (with_reducible refine Kd.C_drewN ?_ _) | (with_reducible refine Kd.C_drew ?_))); (case side2 => exact (Kd.R_reads' HO_7.out).2.1); rintro e w60 ⟨v343, rfl, ho0, hb⟩; refine ⟨_, rfl, ?_⟩; have n0_ := Aside0.mk (Kd.R_elder' (by (with_reducible repeat (first | apply Kd.R_alloc | apply Kd.R_drewN | apply Kd.R_drew)); exact HO_7.out) (Kd.R_base ho0) hb); have n1_ := Aside0.mk (Kd.R_lower (Kd.R_new' ho0 (Kd.R_lt (by (with_reducible repeat (first | apply Kd.R_alloc | apply Kd.R_drewN | apply Kd.R_drew)); exact HO_7.out))) (below_size (by repeat (first | (with_reducible first | exact HB.out | apply below_alloc | apply pw_below_drewN | apply below_drew1) | exact HB.out)))); have n2_ := Aside0.mk (below_step (by repeat (first | (with_reducible first | exact HB.out | apply below_alloc | apply pw_below_drewN | apply below_drew1) | exact HB.out)) hb); clear HO_7; clear HB; have HO_7 := n0_; have HO344 := n1_; have HB := n2_; clear n0_ n1_ n2_; (try clear hb); (try clear hb2); (try clear hk); (try clear hi); (try clear ho0); obtain ⟨Ao61, co61, eo61⟩ := Kd.R_slice HO344.out; subst eo61; have p345 : 0 ≤ (x10_10 : Int) := of_decide_eq_true (by first | (with_reducible assumption) | assumption); have q345 : x10_10 < (t342.length : Int) := of_decide_eq_true (by first | (with_reducible assumption) | assumption); obtain ⟨ad345, e345, hx345_0⟩ := Kd.at_int (Kd.R_reads' HO344.out).2.2 x10_10 p345 q345; cases e345; replace p345 := eq_true p345; replace q345 := eq_true q345; have p55 : 0 ≤ (x10_10 : Int) := of_decide_eq_true (by first | (with_reducible assumption) | assumption); have q55 : (x10_10 : Int) < ((t342.length : Int) : Int) := of_decide_eq_true (by first | (with_reducible assumption) | assumption); obtain ⟨go55, co55, eo55, gb55, gl55, cl55, HG55⟩ := Kd.R_form HO344.out (by omega); (first | cases eo55 | (injection eo55 with ea_ en_ ec_; (first | subst ea_ | (injection ea_ with ea_; subst ea_)); subst ec_; clear en_)); have GB55 := Aside0.mk gb55; have GG55 := Aside0.mk HG55; clear gb55 gl55 HG55; (first | simp only [add_plain] at hx345_0 | skip); obtain ⟨hx55_0, hf55_0⟩ := Kd.R_celln 0 HO344.out (x10_10 : Int) p55 q55; replace p55 := eq_true p55; replace q55 := eq_true q55; have n_ := Aside0.mk (Kd.R_mono (ok' := (fun k_ => some k_ ≠ (.slice Ao59 x7_10.length co59 : Value).ownBlock)) HO344.out (fun k_ hk => hk.2)); clear HO344; have HO344 := n_; clear n_; obtain ⟨hy62_, hz62_⟩ := Kd.R_celln 0 HO344.out (x10_10 : Int) (of_decide_eq_true (by first | (with_reducible assumption) | assumption)) (of_decide_eq_true (by first | (with_reducible assumption) | assumption)); have HP62 := Kd.R_putg HO344.out (x10_10 : Int) (Go.bits .xor .u8 (rd t342 x10_10) 128)) | ((with_reducible refine gate_store (t := 5) (p := 115) rfl ?_); refine store_event (t := 5) (p := 115) (v := ?vo_w63) (w1 := (w60.setCell ⟨go55, (x10_10 : Int).toNat, none⟩ (.int .u8 (Go.bits .xor .u8 (rd t342 x10_10) 128)))) ?hg ?ho ?hn ?hr ?_; (case ho => rfl); (case hg => rfl); (case hn => rfl); (case hr => first | (go_simp; done) | (go_simp; rfl)); intro w63 hw; have hg : w60.grownBy w63 (some go55) := (by rw [hw]; exact HP62.2); have hp_ : Kd.R (Kd.int .u8) 5 w63 w.heap.size (fun k_ => some k_ ≠ (.slice Ao59 x7_10.length co59 : Value).ownBlock) (.slice (some ⟨go55, 0, none⟩) t342.length co61) y346 := (by rw [hw, Ny346.out]; exact HP62.1); clear HP62; have n0_ := Aside0.mk (Kd.R_after (v := (.slice (some ⟨go55, 0, none⟩) t342.length co61)) (v1 := (.slice (some ⟨go55, 0, none⟩) t342.length co61)) (ok := (fun _ => True)) (by (with_reducible repeat (first | apply Kd.R_alloc | apply Kd.R_drewN | apply Kd.R_drew)); exact HO_7.out) hg (.inl rfl)); have n1_ := Aside0.mk (hp_); have n2_ := Aside0.mk ((by rw [hw]; exact below_set (HB.out) GB55.out : Below w.heap.size w w63)); clear HO_7; clear HO344; clear HB; have HO_7 := n0_; have HO344 := n1_; have HB := n2_; clear n0_ n1_ n2_; clear hg hw hp_) | ((with_reducible refine gate_callee (f := 12) rfl ?_); refine goesL_ (some 117) rfl rfl Try.func12 (by kernel_rfl) rfl #[.slice (some ⟨go55, 0, none⟩) y346.length co61] rfl (by (try simp only [List.map_toArray, List.map_cons, List.map_nil]); first | done | (rw [show y346.length = t342.length from (Kd.R_reads' HO344.out).1.symm] <;> rfl) | rfl | (simp only [List.length_drop, List.length_take]; rfl)) ?_; (with_reducible refine (utf_Check.calls k10 _ _ y346 t347 _ ?side1 ?side2 A56.out).mono ?_); (case side1 => repeat (first | exact (Kd.R_reads' HO344.out).2.2 | (with_reducible refine Kd.C_alloc ?_ _) | (with_reducible refine Kd.C_drewN ?_ _) | (with_reducible refine Kd.C_drew ?_))); (case side2 => rw [show y346.length = t342.length from (Kd.R_reads' HO344.out).1.symm]; exact (Kd.R_reads' HO344.out).2.1); rintro e w64 ⟨rfl, hb⟩; refine ⟨_, rfl, ?_⟩; have n0_ := Aside0.mk (Kd.R_below (by (with_reducible repeat (first | apply Kd.R_alloc | apply Kd.R_drewN | apply Kd.R_drew)); exact HO_7.out) hb); have n1_ := Aside0.mk (Kd.R_below (by (with_reducible repeat (first | apply Kd.R_alloc | apply Kd.R_drewN | apply Kd.R_drew)); exact HO344.out) hb); have n2_ := Aside0.mk (below_step (by repeat (first | (with_reducible first | exact HB.out | apply below_alloc | apply pw_below_drewN | apply below_drew1) | exact HB.out)) hb); clear HO_7; clear HO344; clear HB; have HO_7 := n0_; have HO344 := n1_; have HB := n2_; clear n0_ n1_ n2_; (try clear hb); (try clear hb2); (try clear hk); (try clear hi)) | ((with_reducible refine gate_callee (f := 11) rfl ?_); refine goesL_ (some 118) rfl rfl Try.func11 (by kernel_rfl) rfl #[.int .i64 t347] rfl (by (try simp only [List.map_toArray, List.map_cons, List.map_nil]); first | done | rfl | (simp only [List.length_drop, List.length_take]; rfl)) ?_; (with_reducible refine (gangwaylaw2_num.calls t347 t348 _ A57.out).mono ?_); rintro e w' ⟨rfl, ⟨nd, rfl⟩⟩; refine ⟨_, rfl, ?_⟩))
                                                                    go_roundg k10
                                                                    case measure => have := HK1.out; have := HK2.out; have := HJ13.out; have := HK4.out; have := HJ16.out; have := HJ28.out; have := HJ34.out; have := HJ36.out; have := HJ38.out; have := HK10.out; omega
                                                                    case rel => exact ⟨(x7_10), (wrap64 (x10_10 + 1)), (by first | rfl | (simp; done) | (simp [*]; done)), H', ⟨by have := HK1.out; have := HK2.out; have := HJ13.out; have := HK4.out; have := HJ16.out; have := HJ28.out; have := HJ34.out; have := HJ36.out; have := HJ38.out; have := HK10.out; omega⟩, ⟨by (with_reducible repeat (first | apply Kd.R_alloc | apply Kd.R_drewN | apply Kd.R_drew)); exact Kd.R_mono HO_7.out (fun _ hk => trivial)⟩, ⟨by repeat (first | (with_reducible first | exact HB.out | apply below_alloc | apply pw_below_drewN | apply below_drew1) | exact HB.out)⟩⟩
                                                                  · rw [if_neg c58] at H
                                                                    have c58b0 : (t348 == 100) = false := beq_eq_false_iff_ne.mpr c58
                                                                    have c58b1 : (t348 != 100) = true := bne_iff_ne.mpr c58
                                                                    obtain rfl := Option.some.inj H
                                                                    obtain ⟨Ao65, co65, eo65⟩ := Kd.R_slice HO_7.out
                                                                    subst eo65
                                                                    go_wp2_with (first | ((with_reducible refine gate_callee (f := 8) rfl ?_); refine goesL_ (some 107) rfl rfl Try.func8 (by kernel_rfl) rfl #[.slice Ao65 x7_10.length co65] rfl (by (try simp only [List.map_toArray, List.map_cons, List.map_nil]); first | done | rfl | (simp only [List.length_drop, List.length_take]; rfl)) ?_; (with_reducible refine (gangwayref0_CopyBytes.calls k10 _ _ x7_10 t342 _ ?side1 ?side2 A52.out).mono ?_); (case side1 => repeat (first | exact (Kd.R_reads' HO_7.out).2.2 | (with_reducible refine Kd.C_alloc ?_ _) | (with_reducible refine Kd.C_drewN ?_ _) | (with_reducible refine Kd.C_drew ?_))); (case side2 => exact (Kd.R_reads' HO_7.out).2.1); rintro e w66 ⟨v343, rfl, ho0, hb⟩; refine ⟨_, rfl, ?_⟩; have n0_ := Aside0.mk (Kd.R_elder' (by (with_reducible repeat (first | apply Kd.R_alloc | apply Kd.R_drewN | apply Kd.R_drew)); exact HO_7.out) (Kd.R_base ho0) hb); have n1_ := Aside0.mk (Kd.R_lower (Kd.R_new' ho0 (Kd.R_lt (by (with_reducible repeat (first | apply Kd.R_alloc | apply Kd.R_drewN | apply Kd.R_drew)); exact HO_7.out))) (below_size (by repeat (first | (with_reducible first | exact HB.out | apply below_alloc | apply pw_below_drewN | apply below_drew1) | exact HB.out)))); have n2_ := Aside0.mk (below_step (by repeat (first | (with_reducible first | exact HB.out | apply below_alloc | apply pw_below_drewN | apply below_drew1) | exact HB.out)) hb); clear HO_7; clear HB; have HO_7 := n0_; have HO344 := n1_; have HB := n2_; clear n0_ n1_ n2_; (try clear hb); (try clear hb2); (try clear hk); (try clear hi); (try clear ho0); obtain ⟨Ao67, co67, eo67⟩ := Kd.R_slice HO344.out; subst eo67; have p345 : 0 ≤ (x10_10 : Int) := of_decide_eq_true (by first | (with_reducible assumption) | assumption); have q345 : x10_10 < (t342.length : Int) := of_decide_eq_true (by first | (with_reducible assumption) | assumption); obtain ⟨ad345, e345, hx345_0⟩ := Kd.at_int (Kd.R_reads' HO344.out).2.2 x10_10 p345 q345; cases e345; replace p345 := eq_true p345; replace q345 := eq_true q345; have p55 : 0 ≤ (x10_10 : Int) := of_decide_eq_true (by first | (with_reducible assumption) | assumption); have q55 : (x10_10 : Int) < ((t342.length : Int) : Int) := of_decide_eq_true (by first | (with_reducible assumption) | assumption); obtain ⟨go55, co55, eo55, gb55, gl55, cl55, HG55⟩ := Kd.R_form HO344.out (by omega); (first | cases eo55 | (injection eo55 with ea_ en_ ec_; (first | subst ea_ | (injection ea_ with ea_; subst ea_)); subst ec_; clear en_)); have GB55 := Aside0.mk gb55; have GG55 := Aside0.mk HG55; clear gb55 gl55 HG55; (first | simp only [add_plain] at hx345_0 | skip); obtain ⟨hx55_0, hf55_0⟩ := Kd.R_celln 0 HO344.out (x10_10 : Int) p55 q55; replace p55 := eq_true p55; replace q55 := eq_true q55; have n_ := Aside0.mk (Kd.R_mono (ok' := (fun k_ => some k_ ≠ (.slice Ao65 x7_10.length co65 : Value).ownBlock)) HO344.out (fun k_ hk => hk.2)); clear HO344; have HO344 := n_; clear n_; obtain ⟨hy68_, hz68_⟩ := Kd.R_celln 0 HO344.out (x10_10 : Int) (of_decide_eq_true (by first | (with_reducible assumption) | assumption)) (of_decide_eq_true (by first | (with_reducible assumption) | assumption)); have HP68 := Kd.R_putg HO344.out (x10_10 : Int) (Go.bits .xor .u8 (rd t342 x10_10) 128)) | ((with_reducible refine gate_store (t := 5) (p := 115) rfl ?_); refine store_event (t := 5) (p := 115) (v := ?vo_w69) (w1 := (w66.setCell ⟨go55, (x10_10 : Int).toNat, none⟩ (.int .u8 (Go.bits .xor .u8 (rd t342 x10_10) 128)))) ?hg ?ho ?hn ?hr ?_; (case ho => rfl); (case hg => rfl); (case hn => rfl); (case hr => first | (go_simp; done) | (go_simp; rfl)); intro w69 hw; have hg : w66.grownBy w69 (some go55) := (by rw [hw]; exact HP68.2); have hp_ : Kd.R (Kd.int .u8) 5 w69 w.heap.size (fun k_ => some k_ ≠ (.slice Ao65 x7_10.length co65 : Value).ownBlock) (.slice (some ⟨go55, 0, none⟩) t342.length co67) y346 := (by rw [hw, Ny346.out]; exact HP68.1); clear HP68; have n0_ := Aside0.mk (Kd.R_after (v := (.slice (some ⟨go55, 0, none⟩) t342.length co67)) (v1 := (.slice (some ⟨go55, 0, none⟩) t342.length co67)) (ok := (fun _ => True)) (by (with_reducible repeat (first | apply Kd.R_alloc | apply Kd.R_drewN | apply Kd.R_drew)); exact HO_7.out) hg (.inl rfl)); have n1_ := Aside0.mk (hp_); have n2_ := Aside0.mk ((by rw [hw]; exact below_set (HB.out) GB55.out : Below w.heap.size w w69)); clear HO_7; clear HO344; clear HB; have HO_7 := n0_; have HO344 := n1_; have HB := n2_; clear n0_ n1_ n2_; clear hg hw hp_) | ((with_reducible refine gate_callee (f := 12) rfl ?_); refine goesL_ (some 117) rfl rfl Try.func12 (by kernel_rfl) rfl #[.slice (some ⟨go55, 0, none⟩) y346.length co67] rfl (by (try simp only [List.map_toArray, List.map_cons, List.map_nil]); first | done | (rw [show y346.length = t342.length from (Kd.R_reads' HO344.out).1.symm] <;> rfl) | rfl | (simp only [List.length_drop, List.length_take]; rfl)) ?_; (with_reducible refine (utf_Check.calls k10 _ _ y346 t347 _ ?side1 ?side2 A56.out).mono ?_); (case side1 => repeat (first | exact (Kd.R_reads' HO344.out).2.2 | (with_reducible refine Kd.C_alloc ?_ _) | (with_reducible refine Kd.C_drewN ?_ _) | (with_reducible refine Kd.C_drew ?_))); (case side2 => rw [show y346.length = t342.length from (Kd.R_reads' HO344.out).1.symm]; exact (Kd.R_reads' HO344.out).2.1); rintro e w70 ⟨rfl, hb⟩; refine ⟨_, rfl, ?_⟩; have n0_ := Aside0.mk (Kd.R_below (by (with_reducible repeat (first | apply Kd.R_alloc | apply Kd.R_drewN | apply Kd.R_drew)); exact HO_7.out) hb); have n1_ := Aside0.mk (Kd.R_below (by (with_reducible repeat (first | apply Kd.R_alloc | apply Kd.R_drewN | apply Kd.R_drew)); exact HO344.out) hb); have n2_ := Aside0.mk (below_step (by repeat (first | (with_reducible first | exact HB.out | apply below_alloc | apply pw_below_drewN | apply below_drew1) | exact HB.out)) hb); clear HO_7; clear HO344; clear HB; have HO_7 := n0_; have HO344 := n1_; have HB := n2_; clear n0_ n1_ n2_; (try clear hb); (try clear hb2); (try clear hk); (try clear hi)) | ((with_reducible refine gate_callee (f := 11) rfl ?_); refine goesL_ (some 118) rfl rfl Try.func11 (by kernel_rfl) rfl #[.int .i64 t347] rfl (by (try simp only [List.map_toArray, List.map_cons, List.map_nil]); first | done | rfl | (simp only [List.length_drop, List.length_take]; rfl)) ?_; (with_reducible refine (gangwaylaw2_num.calls t347 t348 _ A57.out).mono ?_); rintro e w' ⟨rfl, ⟨nd, rfl⟩⟩; refine ⟨_, rfl, ?_⟩))
                                                                    go_ret
                                                                    exact ⟨by first | rfl | (simp [errW_none, errW_some] <;> rfl) | (simp [*, errW_none, errW_some] <;> rfl), by repeat (first | (with_reducible first | exact HB.out | apply below_alloc | apply pw_below_drewN | apply below_drew1) | exact HB.out)⟩
                                                                · rw [if_neg c54] at H
                                                                  exact absurd H (by simp)
                                                              · rw [if_neg c53] at H
                                                                exact absurd H (by simp)
                                                            · rw [if_neg c51] at H
                                                              have c51b0 : decide (x10_10 < x9_36) = false := decide_eq_false c51
                                                              clear c51
                                                              have H' := Aside0.mk H
                                                              clear H
                                                              go_wp2
                                                              go_roundg k10
                                                              case measure => have := HK1.out; have := HK2.out; have := HJ13.out; have := HK4.out; have := HJ16.out; have := HJ28.out; have := HJ34.out; have := HJ36.out; have := HJ38.out; have := HK10.out; omega
                                                              case rel => exact ⟨(wrap64 (x5_4 + 1)), (by first | rfl | (simp; done) | (simp [*]; done)), H', ⟨by have := HK1.out; have := HK2.out; have := HJ13.out; have := HK4.out; have := HJ16.out; have := HJ28.out; have := HJ34.out; have := HJ36.out; have := HJ38.out; have := HK10.out; omega⟩, ⟨by repeat (first | (with_reducible first | exact HB.out | apply below_alloc | apply pw_below_drewN | apply below_drew1) | exact HB.out)⟩⟩
                                    · rw [if_neg c28] at H
                                      have c28b0 : (t335 == 0) = false := beq_eq_false_iff_ne.mpr c28
                                      have c28b1 : (t335 != 0) = true := bne_iff_ne.mpr c28
                                      by_cases c71 : (rd ((rd_T27 l0 x4_2).f1) x5_4) ≥ 0
                                      · rw [if_pos c71] at H
                                        have c71b0 : decide (0 ≤ (rd ((rd_T27 l0 x4_2).f1) x5_4)) = true := decide_eq_true c71
                                        clear c71
                                        by_cases c72 : (rd ((rd_T27 l0 x4_2).f1) x5_4) < 55296
                                        · rw [if_pos c72] at H
                                          have c72b0 : decide ((rd ((rd_T27 l0 x4_2).f1) x5_4) < 55296) = true := decide_eq_true c72
                                          clear c72
                                          obtain rfl := Option.some.inj H
                                          have p326 : 0 ≤ (x4_2 : Int) := of_decide_eq_true (by first | (with_reducible assumption) | assumption)
                                          have q326 : x4_2 < (l0.length : Int) := of_decide_eq_true (by first | (with_reducible assumption) | assumption)
                                          obtain ⟨ad326, A326_0, c326_0, A326_1, c326_1, e326, hx326_0, hx326_1, hl326_0, hi326_0, hl326_1, hi326_1⟩ := at_T27 HR0.out x4_2 p326 q326
                                          cases e326
                                          replace hx326_0 := (HB.out.cell (World.block_lt_of_cell? w _ hx326_0)).trans hx326_0
                                          replace hx326_1 := (HB.out.cell (World.block_lt_of_cell? w _ hx326_1)).trans hx326_1
                                          have HR326_0 := Aside0.mk hi326_0
                                          have HC326_0 := Aside0.mk hl326_0
                                          clear hi326_0 hl326_0
                                          have HR326_1 := Aside0.mk hi326_1
                                          have HC326_1 := Aside0.mk hl326_1
                                          clear hi326_1 hl326_1
                                          replace p326 := eq_true p326
                                          replace q326 := eq_true q326
                                          have p327 : 0 ≤ (x5_4 : Int) := of_decide_eq_true (by first | (with_reducible assumption) | assumption)
                                          have q327 : x5_4 < (((rd_T27 l0 x4_2).f1).length : Int) := of_decide_eq_true (by first | (with_reducible assumption) | assumption)
                                          obtain ⟨ad327, e327, hx327_0⟩ := Kd.at_int HR326_1.out x5_4 p327 q327
                                          cases e327
                                          replace hx327_0 := (HB.out.cell (World.block_lt_of_cell? w _ hx327_0)).trans hx327_0
                                          replace p327 := eq_true p327
                                          replace q327 := eq_true q327
                                          go_wp2_with (first | ((with_reducible refine gate_dst (N := 59) rfl ?_); refine Kd.R_lit (Kd.int .i32) _ 21 ?hg (N := 59) ?hd (xs := ([rd ((rd_T27 l0 x4_2).f1) x5_4] : List Int)) (inner := [.int .i32 (rd ((rd_T27 l0 x4_2).f1) x5_4)]) (ok := fun _ => True) (okp := fun _ => True) ?hr ?hp (fun _ hk => hk) trivial (Below.refl _ _) (Nat.le_refl _) (by simp) ?_; (case hd => rfl); (case hg => rfl); (case hr => first | (go_simp; done) | (go_simp; rfl)); (case hp => exact (Reps.one (show Kd.M (Kd.int .i32) _ _ _ (rd ((rd_T27 l0 x4_2).f1) x5_4) [.int .i32 (rd ((rd_T27 l0 x4_2).f1) x5_4)] from rfl) (Reps.none _ _))); intro v329 w73 ho74 hb hg_ hnew_; clear hg_ hnew_; (first | rw [← Ny328.out] at ho74 | (simp only [Int.reduceToNat] at ho74; rw [← Ny328.out] at ho74)); have n0_ := Aside0.mk (Kd.R_lower ho74 (below_size (by repeat (first | (with_reducible first | exact HB.out | apply below_alloc | apply pw_below_drewN | apply below_drew1) | exact HB.out)))); have n1_ := Aside0.mk (below_step (by repeat (first | (with_reducible first | exact HB.out | apply below_alloc | apply pw_below_drewN | apply below_drew1) | exact HB.out)) hb); clear HB; have HO330 := n0_; have HB := n1_; clear n0_ n1_; clear hb ho74; obtain ⟨Ao75, co75, eo75⟩ := Kd.R_slice HO330.out; subst eo75) | ((with_reducible refine gate_callee (f := 19) rfl ?_); refine goesL_ (some 60) rfl rfl Try.func19 (by kernel_rfl) rfl #[.slice Ao75 y328.length co75] rfl (by (try simp only [List.map_toArray, List.map_cons, List.map_nil]); first | done | rfl | (simp only [List.length_drop, List.length_take]; rfl)) ?_; (with_reducible refine (utf_Bytes.calls kj16 _ _ y328 t331 t332 _ ?side1 ?side2 A26.out).mono ?_); (case side1 => repeat (first | exact (Kd.R_reads' HO330.out).2.2 | (with_reducible refine Kd.C_alloc ?_ _) | (with_reducible refine Kd.C_drewN ?_ _) | (with_reducible refine Kd.C_drew ?_))); (case side2 => exact (Kd.R_reads' HO330.out).2.1); rintro e w76 ⟨v333, rfl, ho0, hb⟩; refine ⟨_, rfl, ?_⟩; have n0_ := Aside0.mk (Kd.R_below (by (with_reducible repeat (first | apply Kd.R_alloc | apply Kd.R_drewN | apply Kd.R_drew)); exact HO330.out) hb); have n1_ := Aside0.mk (Kd.R_lower ho0 (below_size (by repeat (first | (with_reducible first | exact HB.out | apply below_alloc | apply pw_below_drewN | apply below_drew1) | exact HB.out)))); have n2_ := Aside0.mk (below_step (by repeat (first | (with_reducible first | exact HB.out | apply below_alloc | apply pw_below_drewN | apply below_drew1) | exact HB.out)) hb); clear HO330; clear HB; have HO330 := n0_; have HO334 := n1_; have HB := n2_; clear n0_ n1_ n2_; (try clear hb); (try clear hb2); (try clear hk); (try clear hi); (try clear ho0)) | ((with_reducible refine gate_callee (f := 11) rfl ?_); refine goesL_ (some 64) rfl rfl Try.func11 (by kernel_rfl) rfl #[.int .i64 t332] rfl (by (try simp only [List.map_toArray, List.map_cons, List.map_nil]); first | done | rfl | (simp only [List.length_drop, List.length_take]; rfl)) ?_; (with_reducible refine (gangwaylaw2_num.calls t332 t335 _ A27.out).mono ?_); rintro e w' ⟨rfl, ⟨nd, rfl⟩⟩; refine ⟨_, rfl, ?_⟩))
                                          go_ret
                                          exact ⟨by first | rfl | (simp [errW_none, errW_some] <;> rfl) | (simp [*, errW_none, errW_some] <;> rfl), by repeat (first | (with_reducible first | exact HB.out | apply below_alloc | apply pw_below_drewN | apply below_drew1) | exact HB.out)⟩
                                        · rw [if_neg c72] at H
                                          have c72b0 : decide ((rd ((rd_T27 l0 x4_2).f1) x5_4) < 55296) = false := decide_eq_false c72
                                          clear c72
                                          by_cases c77 : (rd ((rd_T27 l0 x4_2).f1) x5_4) > 57343
                                          · rw [if_pos c77] at H
                                            have c77b0 : decide (57343 < (rd ((rd_T27 l0 x4_2).f1) x5_4)) = true := decide_eq_true c77
                                            clear c77
                                            by_cases c78 : (rd ((rd_T27 l0 x4_2).f1) x5_4) ≤ 1114111
                                            · rw [if_pos c78] at H
                                              have c78b0 : decide ((rd ((rd_T27 l0 x4_2).f1) x5_4) ≤ 1114111) = true := decide_eq_true c78
                                              clear c78
                                              obtain rfl := Option.some.inj H
                                              have p326 : 0 ≤ (x4_2 : Int) := of_decide_eq_true (by first | (with_reducible assumption) | assumption)
                                              have q326 : x4_2 < (l0.length : Int) := of_decide_eq_true (by first | (with_reducible assumption) | assumption)
                                              obtain ⟨ad326, A326_0, c326_0, A326_1, c326_1, e326, hx326_0, hx326_1, hl326_0, hi326_0, hl326_1, hi326_1⟩ := at_T27 HR0.out x4_2 p326 q326
                                              cases e326
                                              replace hx326_0 := (HB.out.cell (World.block_lt_of_cell? w _ hx326_0)).trans hx326_0
                                              replace hx326_1 := (HB.out.cell (World.block_lt_of_cell? w _ hx326_1)).trans hx326_1
                                              have HR326_0 := Aside0.mk hi326_0
                                              have HC326_0 := Aside0.mk hl326_0
                                              clear hi326_0 hl326_0
                                              have HR326_1 := Aside0.mk hi326_1
                                              have HC326_1 := Aside0.mk hl326_1
                                              clear hi326_1 hl326_1
                                              replace p326 := eq_true p326
                                              replace q326 := eq_true q326
                                              have p327 : 0 ≤ (x5_4 : Int) := of_decide_eq_true (by first | (with_reducible assumption) | assumption)
                                              have q327 : x5_4 < (((rd_T27 l0 x4_2).f1).length : Int) := of_decide_eq_true (by first | (with_reducible assumption) | assumption)
                                              obtain ⟨ad327, e327, hx327_0⟩ := Kd.at_int HR326_1.out x5_4 p327 q327
                                              cases e327
                                              replace hx327_0 := (HB.out.cell (World.block_lt_of_cell? w _ hx327_0)).trans hx327_0
                                              replace p327 := eq_true p327
                                              replace q327 := eq_true q327
                                              go_wp2_with (first | ((with_reducible refine gate_dst (N := 59) rfl ?_); refine Kd.R_lit (Kd.int .i32) _ 21 ?hg (N := 59) ?hd (xs := ([rd ((rd_T27 l0 x4_2).f1) x5_4] : List Int)) (inner := [.int .i32 (rd ((rd_T27 l0 x4_2).f1) x5_4)]) (ok := fun _ => True) (okp := fun _ => True) ?hr ?hp (fun _ hk => hk) trivial (Below.refl _ _) (Nat.le_refl _) (by simp) ?_; (case hd => rfl); (case hg => rfl); (case hr => first | (go_simp; done) | (go_simp; rfl)); (case hp => exact (Reps.one (show Kd.M (Kd.int .i32) _ _ _ (rd ((rd_T27 l0 x4_2).f1) x5_4) [.int .i32 (rd ((rd_T27 l0 x4_2).f1) x5_4)] from rfl) (Reps.none _ _))); intro v329 w79 ho80 hb hg_ hnew_; clear hg_ hnew_; (first | rw [← Ny328.out] at ho80 | (simp only [Int.reduceToNat] at ho80; rw [← Ny328.out] at ho80)); have n0_ := Aside0.mk (Kd.R_lower ho80 (below_size (by repeat (first | (with_reducible first | exact HB.out | apply below_alloc | apply pw_below_drewN | apply below_drew1) | exact HB.out)))); have n1_ := Aside0.mk (below_step (by repeat (first | (with_reducible first | exact HB.out | apply below_alloc | apply pw_below_drewN | apply below_drew1) | exact HB.out)) hb); clear HB; have HO330 := n0_; have HB := n1_; clear n0_ n1_; clear hb ho80; obtain ⟨Ao81, co81, eo81⟩ := Kd.R_slice HO330.out; subst eo81) | ((with_reducible refine gate_callee (f := 19) rfl ?_); refine goesL_ (some 60) rfl rfl Try.func19 (by kernel_rfl) rfl #[.slice Ao81 y328.length co81] rfl (by (try simp only [List.map_toArray, List.map_cons, List.map_nil]); first | done | rfl | (simp only [List.length_drop, List.length_take]; rfl)) ?_; (with_reducible refine (utf_Bytes.calls kj16 _ _ y328 t331 t332 _ ?side1 ?side2 A26.out).mono ?_); (case side1 => repeat (first | exact (Kd.R_reads' HO330.out).2.2 | (with_reducible refine Kd.C_alloc ?_ _) | (with_reducible refine Kd.C_drewN ?_ _) | (with_reducible refine Kd.C_drew ?_))); (case side2 => exact (Kd.R_reads' HO330.out).2.1); rintro e w82 ⟨v333, rfl, ho0, hb⟩; refine ⟨_, rfl, ?_⟩; have n0_ := Aside0.mk (Kd.R_below (by (with_reducible repeat (first | apply Kd.R_alloc | apply Kd.R_drewN | apply Kd.R_drew)); exact HO330.out) hb); have n1_ := Aside0.mk (Kd.R_lower ho0 (below_size (by repeat (first | (with_reducible first | exact HB.out | apply below_alloc | apply pw_below_drewN | apply below_drew1) | exact HB.out)))); have n2_ := Aside0.mk (below_step (by repeat (first | (with_reducible first | exact HB.out | apply below_alloc | apply pw_below_drewN | apply below_drew1) | exact HB.out)) hb); clear HO330; clear HB; have HO330 := n0_; have HO334 := n1_; have HB := n2_; clear n0_ n1_ n2_; (try clear hb); (try clear hb2); (try clear hk); (try clear hi); (try clear ho0)) | ((with_reducible refine gate_callee (f := 11) rfl ?_); refine goesL_ (some 64) rfl rfl Try.func11 (by kernel_rfl) rfl #[.int .i64 t332] rfl (by (try simp only [List.map_toArray, List.map_cons, List.map_nil]); first | done | rfl | (simp only [List.length_drop, List.length_take]; rfl)) ?_; (with_reducible refine (gangwaylaw2_num.calls t332 t335 _ A27.out).mono ?_); rintro e w' ⟨rfl, ⟨nd, rfl⟩⟩; refine ⟨_, rfl, ?_⟩))
                                              go_ret
                                              exact ⟨by first | rfl | (simp [errW_none, errW_some] <;> rfl) | (simp [*, errW_none, errW_some] <;> rfl), by repeat (first | (with_reducible first | exact HB.out | apply below_alloc | apply pw_below_drewN | apply below_drew1) | exact HB.out)⟩
                                            · rw [if_neg c78] at H
                                              have c78b0 : decide ((rd ((rd_T27 l0 x4_2).f1) x5_4) ≤ 1114111) = false := decide_eq_false c78
                                              clear c78
                                              have H' := Aside0.mk H
                                              clear H
                                              have p326 : 0 ≤ (x4_2 : Int) := of_decide_eq_true (by first | (with_reducible assumption) | assumption)
                                              have q326 : x4_2 < (l0.length : Int) := of_decide_eq_true (by first | (with_reducible assumption) | assumption)
                                              obtain ⟨ad326, A326_0, c326_0, A326_1, c326_1, e326, hx326_0, hx326_1, hl326_0, hi326_0, hl326_1, hi326_1⟩ := at_T27 HR0.out x4_2 p326 q326
                                              cases e326
                                              replace hx326_0 := (HB.out.cell (World.block_lt_of_cell? w _ hx326_0)).trans hx326_0
                                              replace hx326_1 := (HB.out.cell (World.block_lt_of_cell? w _ hx326_1)).trans hx326_1
                                              have HR326_0 := Aside0.mk hi326_0
                                              have HC326_0 := Aside0.mk hl326_0
                                              clear hi326_0 hl326_0
                                              have HR326_1 := Aside0.mk hi326_1
                                              have HC326_1 := Aside0.mk hl326_1
                                              clear hi326_1 hl326_1
                                              replace p326 := eq_true p326
                                              replace q326 := eq_true q326
                                              have p327 : 0 ≤ (x5_4 : Int) := of_decide_eq_true (by first | (with_reducible assumption) | assumption)
                                              have q327 : x5_4 < (((rd_T27 l0 x4_2).f1).length : Int) := of_decide_eq_true (by first | (with_reducible assumption) | assumption)
                                              obtain ⟨ad327, e327, hx327_0⟩ := Kd.at_int HR326_1.out x5_4 p327 q327
                                              cases e327
                                              replace hx327_0 := (HB.out.cell (World.block_lt_of_cell? w _ hx327_0)).trans hx327_0
                                              replace p327 := eq_true p327
                                              replace q327 := eq_true q327
                                              go_wp2_with (first | ((with_reducible refine gate_dst (N := 59) rfl ?_); refine Kd.R_lit (Kd.int .i32) _ 21 ?hg (N := 59) ?hd (xs := ([rd ((rd_T27 l0 x4_2).f1) x5_4] : List Int)) (inner := [.int .i32 (rd ((rd_T27 l0 x4_2).f1) x5_4)]) (ok := fun _ => True) (okp := fun _ => True) ?hr ?hp (fun _ hk => hk) trivial (Below.refl _ _) (Nat.le_refl _) (by simp) ?_; (case hd => rfl); (case hg => rfl); (case hr => first | (go_simp; done) | (go_simp; rfl)); (case hp => exact (Reps.one (show Kd.M (Kd.int .i32) _ _ _ (rd ((rd_T27 l0 x4_2).f1) x5_4) [.int .i32 (rd ((rd_T27 l0 x4_2).f1) x5_4)] from rfl) (Reps.none _ _))); intro v329 w83 ho84 hb hg_ hnew_; clear hg_ hnew_; (first | rw [← Ny328.out] at ho84 | (simp only [Int.reduceToNat] at ho84; rw [← Ny328.out] at ho84)); have n0_ := Aside0.mk (Kd.R_lower ho84 (below_size (by repeat (first | (with_reducible first | exact HB.out | apply below_alloc | apply pw_below_drewN | apply below_drew1) | exact HB.out)))); have n1_ := Aside0.mk (below_step (by repeat (first | (with_reducible first | exact HB.out | apply below_alloc | apply pw_below_drewN | apply below_drew1) | exact HB.out)) hb); clear HB; have HO330 := n0_; have HB := n1_; clear n0_ n1_; clear hb ho84; obtain ⟨Ao85, co85, eo85⟩ := Kd.R_slice HO330.out; subst eo85) | ((with_reducible refine gate_callee (f := 19) rfl ?_); refine goesL_ (some 60) rfl rfl Try.func19 (by kernel_rfl) rfl #[.slice Ao85 y328.length co85] rfl (by (try simp only [List.map_toArray, List.map_cons, List.map_nil]); first | done | rfl | (simp only [List.length_drop, List.length_take]; rfl)) ?_; (with_reducible refine (utf_Bytes.calls kj16 _ _ y328 t331 t332 _ ?side1 ?side2 A26.out).mono ?_); (case side1 => repeat (first | exact (Kd.R_reads' HO330.out).2.2 | (with_reducible refine Kd.C_alloc ?_ _) | (with_reducible refine Kd.C_drewN ?_ _) | (with_reducible refine Kd.C_drew ?_))); (case side2 => exact (Kd.R_reads' HO330.out).2.1); rintro e w86 ⟨v333, rfl, ho0, hb⟩; refine ⟨_, rfl, ?_⟩; have n0_ := Aside0.mk (Kd.R_below (by (with_reducible repeat (first | apply Kd.R_alloc | apply Kd.R_drewN | apply Kd.R_drew)); exact HO330.out) hb); have n1_ := Aside0.mk (Kd.R_lower ho0 (below_size (by repeat (first | (with_reducible first | exact HB.out | apply below_alloc | apply pw_below_drewN | apply below_drew1) | exact HB.out)))); have n2_ := Aside0.mk (below_step (by repeat (first | (with_reducible first | exact HB.out | apply below_alloc | apply pw_below_drewN | apply below_drew1) | exact HB.out)) hb); clear HO330; clear HB; have HO330 := n0_; have HO334 := n1_; have HB := n2_; clear n0_ n1_ n2_; (try clear hb); (try clear hb2); (try clear hk); (try clear hi); (try clear ho0)) | ((with_reducible refine gate_callee (f := 11) rfl ?_); refine goesL_ (some 64) rfl rfl Try.func11 (by kernel_rfl) rfl #[.int .i64 t332] rfl (by (try simp only [List.map_toArray, List.map_cons, List.map_nil]); first | done | rfl | (simp only [List.length_drop, List.length_take]; rfl)) ?_; (with_reducible refine (gangwaylaw2_num.calls t332 t335 _ A27.out).mono ?_); rintro e w' ⟨rfl, ⟨nd, rfl⟩⟩; refine ⟨_, rfl, ?_⟩))
                                              go_roundg kj16
                                              case measure => have := HK1.out; have := HK2.out; have := HJ13.out; have := HK4.out; have := HJ16.out; omega
                                              case rel => exact ⟨(wrap64 (x5_4 + 1)), (by first | rfl | (simp; done) | (simp [*]; done)), H', ⟨by have := HK1.out; have := HK2.out; have := HJ13.out; have := HK4.out; have := HJ16.out; omega⟩, ⟨by repeat (first | (with_reducible first | exact HB.out | apply below_alloc | apply pw_below_drewN | apply below_drew1) | exact HB.out)⟩⟩
                                          · rw [if_neg c77] at H
                                            have c77b0 : decide (57343 < (rd ((rd_T27 l0 x4_2).f1) x5_4)) = false := decide_eq_false c77
                                            clear c77
                                            have H' := Aside0.mk H
                                            clear H
                                            have p326 : 0 ≤ (x4_2 : Int) := of_decide_eq_true (by first | (with_reducible assumption) | assumption)
                                            have q326 : x4_2 < (l0.length : Int) := of_decide_eq_true (by first | (with_reducible assumption) | assumption)
                                            obtain ⟨ad326, A326_0, c326_0, A326_1, c326_1, e326, hx326_0, hx326_1, hl326_0, hi326_0, hl326_1, hi326_1⟩ := at_T27 HR0.out x4_2 p326 q326
                                            cases e326
                                            replace hx326_0 := (HB.out.cell (World.block_lt_of_cell? w _ hx326_0)).trans hx326_0
                                            replace hx326_1 := (HB.out.cell (World.block_lt_of_cell? w _ hx326_1)).trans hx326_1
                                            have HR326_0 := Aside0.mk hi326_0
                                            have HC326_0 := Aside0.mk hl326_0
                                            clear hi326_0 hl326_0
                                            have HR326_1 := Aside0.mk hi326_1
                                            have HC326_1 := Aside0.mk hl326_1
                                            clear hi326_1 hl326_1
                                            replace p326 := eq_true p326
                                            replace q326 := eq_true q326
                                            have p327 : 0 ≤ (x5_4 : Int) := of_decide_eq_true (by first | (with_reducible assumption) | assumption)
                                            have q327 : x5_4 < (((rd_T27 l0 x4_2).f1).length : Int) := of_decide_eq_true (by first | (with_reducible assumption) | assumption)
                                            obtain ⟨ad327, e327, hx327_0⟩ := Kd.at_int HR326_1.out x5_4 p327 q327
                                            cases e327
                                            replace hx327_0 := (HB.out.cell (World.block_lt_of_cell? w _ hx327_0)).trans hx327_0
                                            replace p327 := eq_true p327
                                            replace q327 := eq_true q327
                                            go_wp2_with (first | ((with_reducible refine gate_dst (N := 59) rfl ?_); refine Kd.R_lit (Kd.int .i32) _ 21 ?hg (N := 59) ?hd (xs := ([rd ((rd_T27 l0 x4_2).f1) x5_4] : List Int)) (inner := [.int .i32 (rd ((rd_T27 l0 x4_2).f1) x5_4)]) (ok := fun _ => True) (okp := fun _ => True) ?hr ?hp (fun _ hk => hk) trivial (Below.refl _ _) (Nat.le_refl _) (by simp) ?_; (case hd => rfl); (case hg => rfl); (case hr => first | (go_simp; done) | (go_simp; rfl)); (case hp => exact (Reps.one (show Kd.M (Kd.int .i32) _ _ _ (rd ((rd_T27 l0 x4_2).f1) x5_4) [.int .i32 (rd ((rd_T27 l0 x4_2).f1) x5_4)] from rfl) (Reps.none _ _))); intro v329 w87 ho88 hb hg_ hnew_; clear hg_ hnew_; (first | rw [← Ny328.out] at ho88 | (simp only [Int.reduceToNat] at ho88; rw [← Ny328.out] at ho88)); have n0_ := Aside0.mk (Kd.R_lower ho88 (below_size (by repeat (first | (with_reducible first | exact HB.out | apply below_alloc | apply pw_below_drewN | apply below_drew1) | exact HB.out)))); have n1_ := Aside0.mk (below_step (by repeat (first | (with_reducible first | exact HB.out | apply below_alloc | apply pw_below_drewN | apply below_drew1) | exact HB.out)) hb); clear HB; have HO330 := n0_; have HB := n1_; clear n0_ n1_; clear hb ho88; obtain ⟨Ao89, co89, eo89⟩ := Kd.R_slice HO330.out; subst eo89) | ((with_reducible refine gate_callee (f := 19) rfl ?_); refine goesL_ (some 60) rfl rfl Try.func19 (by kernel_rfl) rfl #[.slice Ao89 y328.length co89] rfl (by (try simp only [List.map_toArray, List.map_cons, List.map_nil]); first | done | rfl | (simp only [List.length_drop, List.length_take]; rfl)) ?_; (with_reducible refine (utf_Bytes.calls kj16 _ _ y328 t331 t332 _ ?side1 ?side2 A26.out).mono ?_); (case side1 => repeat (first | exact (Kd.R_reads' HO330.out).2.2 | (with_reducible refine Kd.C_alloc ?_ _) | (with_reducible refine Kd.C_drewN ?_ _) | (with_reducible refine Kd.C_drew ?_))); (case side2 => exact (Kd.R_reads' HO330.out).2.1); rintro e w90 ⟨v333, rfl, ho0, hb⟩; refine ⟨_, rfl, ?_⟩; have n0_ := Aside0.mk (Kd.R_below (by (with_reducible repeat (first | apply Kd.R_alloc | apply Kd.R_drewN | apply Kd.R_drew)); exact HO330.out) hb); have n1_ := Aside0.mk (Kd.R_lower ho0 (below_size (by repeat (first | (with_reducible first | exact HB.out | apply below_alloc | apply pw_below_drewN | apply below_drew1) | exact HB.out)))); have n2_ := Aside0.mk (below_step (by repeat (first | (with_reducible first | exact HB.out | apply below_alloc | apply pw_below_drewN | apply below_drew1) | exact HB.out)) hb); clear HO330; clear HB; have HO330 := n0_; have HO334 := n1_; have HB := n2_; clear n0_ n1_ n2_; (try clear hb); (try clear hb2); (try clear hk); (try clear hi); (try clear ho0)) | ((with_reducible refine gate_callee (f := 11) rfl ?_); refine goesL_ (some 64) rfl rfl Try.func11 (by kernel_rfl) rfl #[.int .i64 t332] rfl (by (try simp only [List.map_toArray, List.map_cons, List.map_nil]); first | done | rfl | (simp only [List.length_drop, List.length_take]; rfl)) ?_; (with_reducible refine (gangwaylaw2_num.calls t332 t335 _ A27.out).mono ?_); rintro e w' ⟨rfl, ⟨nd, rfl⟩⟩; refine ⟨_, rfl, ?_⟩))
                                            go_roundg kj16
                                            case measure => have := HK1.out; have := HK2.out; have := HJ13.out; have := HK4.out; have := HJ16.out; omega
                                            case rel => exact ⟨(wrap64 (x5_4 + 1)), (by first | rfl | (simp; done) | (simp [*]; done)), H', ⟨by have := HK1.out; have := HK2.out; have := HJ13.out; have := HK4.out; have := HJ16.out; omega⟩, ⟨by repeat (first | (with_reducible first | exact HB.out | apply below_alloc | apply pw_below_drewN | apply below_drew1) | exact HB.out)⟩⟩
                                      · rw [if_neg c71] at H
                                        have c71b0 : decide (0 ≤ (rd ((rd_T27 l0 x4_2).f1) x5_4)) = false := decide_eq_false c71
                                        clear c71
                                        by_cases c91 : (rd ((rd_T27 l0 x4_2).f1) x5_4) > 57343
                                        · rw [if_pos c91] at H
                                          have c91b0 : decide (57343 < (rd ((rd_T27 l0 x4_2).f1) x5_4)) = true := decide_eq_true c91
                                          clear c91
                                          by_cases c92 : (rd ((rd_T27 l0 x4_2).f1) x5_4) ≤ 1114111
                                          · rw [if_pos c92] at H
                                            have c92b0 : decide ((rd ((rd_T27 l0 x4_2).f1) x5_4) ≤ 1114111) = true := decide_eq_true c92
                                            clear c92
                                            obtain rfl := Option.some.inj H
                                            have p326 : 0 ≤ (x4_2 : Int) := of_decide_eq_true (by first | (with_reducible assumption) | assumption)
                                            have q326 : x4_2 < (l0.length : Int) := of_decide_eq_true (by first | (with_reducible assumption) | assumption)
                                            obtain ⟨ad326, A326_0, c326_0, A326_1, c326_1, e326, hx326_0, hx326_1, hl326_0, hi326_0, hl326_1, hi326_1⟩ := at_T27 HR0.out x4_2 p326 q326
                                            cases e326
                                            replace hx326_0 := (HB.out.cell (World.block_lt_of_cell? w _ hx326_0)).trans hx326_0
                                            replace hx326_1 := (HB.out.cell (World.block_lt_of_cell? w _ hx326_1)).trans hx326_1
                                            have HR326_0 := Aside0.mk hi326_0
                                            have HC326_0 := Aside0.mk hl326_0
                                            clear hi326_0 hl326_0
                                            have HR326_1 := Aside0.mk hi326_1
                                            have HC326_1 := Aside0.mk hl326_1
                                            clear hi326_1 hl326_1
                                            replace p326 := eq_true p326
                                            replace q326 := eq_true q326
                                            have p327 : 0 ≤ (x5_4 : Int) := of_decide_eq_true (by first | (with_reducible assumption) | assumption)
                                            have q327 : x5_4 < (((rd_T27 l0 x4_2).f1).length : Int) := of_decide_eq_true (by first | (with_reducible assumption) | assumption)
                                            obtain ⟨ad327, e327, hx327_0⟩ := Kd.at_int HR326_1.out x5_4 p327 q327
                                            cases e327
                                            replace hx327_0 := (HB.out.cell (World.block_lt_of_cell? w _ hx327_0)).trans hx327_0
                                            replace p327 := eq_true p327
                                            replace q327 := eq_true q327
                                            go_wp2_with (first | ((with_reducible refine gate_dst (N := 59) rfl ?_); refine Kd.R_lit (Kd.int .i32) _ 21 ?hg (N := 59) ?hd (xs := ([rd ((rd_T27 l0 x4_2).f1) x5_4] : List Int)) (inner := [.int .i32 (rd ((rd_T27 l0 x4_2).f1) x5_4)]) (ok := fun _ => True) (okp := fun _ => True) ?hr ?hp (fun _ hk => hk) trivial (Below.refl _ _) (Nat.le_refl _) (by simp) ?_; (case hd => rfl); (case hg => rfl); (case hr => first | (go_simp; done) | (go_simp; rfl)); (case hp => exact (Reps.one (show Kd.M (Kd.int .i32) _ _ _ (rd ((rd_T27 l0 x4_2).f1) x5_4) [.int .i32 (rd ((rd_T27 l0 x4_2).f1) x5_4)] from rfl) (Reps.none _ _))); intro v329 w93 ho94 hb hg_ hnew_; clear hg_ hnew_; (first | rw [← Ny328.out] at ho94 | (simp only [Int.reduceToNat] at ho94; rw [← Ny328.out] at ho94)); have n0_ := Aside0.mk (Kd.R_lower ho94 (below_size (by repeat (first | (with_reducible first | exact HB.out | apply below_alloc | apply pw_below_drewN | apply below_drew1) | exact HB.out)))); have n1_ := Aside0.mk (below_step (by repeat (first | (with_reducible first | exact HB.out | apply below_alloc | apply pw_below_drewN | apply below_drew1) | exact HB.out)) hb); clear HB; have HO330 := n0_; have HB := n1_; clear n0_ n1_; clear hb ho94; obtain ⟨Ao95, co95, eo95⟩ := Kd.R_slice HO330.out; subst eo95) | ((with_reducible refine gate_callee (f := 19) rfl ?_); refine goesL_ (some 60) rfl rfl Try.func19 (by kernel_rfl) rfl #[.slice Ao95 y328.length co95] rfl (by (try simp only [List.map_toArray, List.map_cons, List.map_nil]); first | done | rfl | (simp only [List.length_drop, List.length_take]; rfl)) ?_; (with_reducible refine (utf_Bytes.calls kj16 _ _ y328 t331 t332 _ ?side1 ?side2 A26.out).mono ?_); (case side1 => repeat (first | exact (Kd.R_reads' HO330.out).2.2 | (with_reducible refine Kd.C_alloc ?_ _) | (with_reducible refine Kd.C_drewN ?_ _) | (with_reducible refine Kd.C_drew ?_))); (case side2 => exact (Kd.R_reads' HO330.out).2.1); rintro e w96 ⟨v333, rfl, ho0, hb⟩; refine ⟨_, rfl, ?_⟩; have n0_ := Aside0.mk (Kd.R_below (by (with_reducible repeat (first | apply Kd.R_alloc | apply Kd.R_drewN | apply Kd.R_drew)); exact HO330.out) hb); have n1_ := Aside0.mk (Kd.R_lower ho0 (below_size (by repeat (first | (with_reducible first | exact HB.out | apply below_alloc | apply pw_below_drewN | apply below_drew1) | exact HB.out)))); have n2_ := Aside0.mk (below_step (by repeat (first | (with_reducible first | exact HB.out | apply below_alloc | apply pw_below_drewN | apply below_drew1) | exact HB.out)) hb); clear HO330; clear HB; have HO330 := n0_; have HO334 := n1_; have HB := n2_; clear n0_ n1_ n2_; (try clear hb); (try clear hb2); (try clear hk); (try clear hi); (try clear ho0)) | ((with_reducible refine gate_callee (f := 11) rfl ?_); refine goesL_ (some 64) rfl rfl Try.func11 (by kernel_rfl) rfl #[.int .i64 t332] rfl (by (try simp only [List.map_toArray, List.map_cons, List.map_nil]); first | done | rfl | (simp only [List.length_drop, List.length_take]; rfl)) ?_; (with_reducible refine (gangwaylaw2_num.calls t332 t335 _ A27.out).mono ?_); rintro e w' ⟨rfl, ⟨nd, rfl⟩⟩; refine ⟨_, rfl, ?_⟩))
                                            go_ret
                                            exact ⟨by first | rfl | (simp [errW_none, errW_some] <;> rfl) | (simp [*, errW_none, errW_some] <;> rfl), by repeat (first | (with_reducible first | exact HB.out | apply below_alloc | apply pw_below_drewN | apply below_drew1) | exact HB.out)⟩
                                          · rw [if_neg c92] at H
                                            have c92b0 : decide ((rd ((rd_T27 l0 x4_2).f1) x5_4) ≤ 1114111) = false := decide_eq_false c92
                                            clear c92
                                            have H' := Aside0.mk H
                                            clear H
                                            have p326 : 0 ≤ (x4_2 : Int) := of_decide_eq_true (by first | (with_reducible assumption) | assumption)
                                            have q326 : x4_2 < (l0.length : Int) := of_decide_eq_true (by first | (with_reducible assumption) | assumption)
                                            obtain ⟨ad326, A326_0, c326_0, A326_1, c326_1, e326, hx326_0, hx326_1, hl326_0, hi326_0, hl326_1, hi326_1⟩ := at_T27 HR0.out x4_2 p326 q326
                                            cases e326
                                            replace hx326_0 := (HB.out.cell (World.block_lt_of_cell? w _ hx326_0)).trans hx326_0
                                            replace hx326_1 := (HB.out.cell (World.block_lt_of_cell? w _ hx326_1)).trans hx326_1
                                            have HR326_0 := Aside0.mk hi326_0
                                            have HC326_0 := Aside0.mk hl326_0
                                            clear hi326_0 hl326_0
                                            have HR326_1 := Aside0.mk hi326_1
                                            have HC326_1 := Aside0.mk hl326_1
                                            clear hi326_1 hl326_1
                                            replace p326 := eq_true p326
                                            replace q326 := eq_true q326
                                            have p327 : 0 ≤ (x5_4 : Int) := of_decide_eq_true (by first | (with_reducible assumption) | assumption)
                                            have q327 : x5_4 < (((rd_T27 l0 x4_2).f1).length : Int) := of_decide_eq_true (by first | (with_reducible assumption) | assumption)
                                            obtain ⟨ad327, e327, hx327_0⟩ := Kd.at_int HR326_1.out x5_4 p327 q327
                                            cases e327
                                            replace hx327_0 := (HB.out.cell (World.block_lt_of_cell? w _ hx327_0)).trans hx327_0
                                            replace p327 := eq_true p327
                                            replace q327 := eq_true q327
                                            go_wp2_with (first | ((with_reducible refine gate_dst (N := 59) rfl ?_); refine Kd.R_lit (Kd.int .i32) _ 21 ?hg (N := 59) ?hd (xs := ([rd ((rd_T27 l0 x4_2).f1) x5_4] : List Int)) (inner := [.int .i32 (rd ((rd_T27 l0 x4_2).f1) x5_4)]) (ok := fun _ => True) (okp := fun _ => True) ?hr ?hp (fun _ hk => hk) trivial (Below.refl _ _) (Nat.le_refl _) (by simp) ?_; (case hd => rfl); (case hg => rfl); (case hr => first | (go_simp; done) | (go_simp; rfl)); (case hp => exact (Reps.one (show Kd.M (Kd.int .i32) _ _ _ (rd ((rd_T27 l0 x4_2).f1) x5_4) [.int .i32 (rd ((rd_T27 l0 x4_2).f1) x5_4)] from rfl) (Reps.none _ _))); intro v329 w97 ho98 hb hg_ hnew_; clear hg_ hnew_; (first | rw [← Ny328.out] at ho98 | (simp only [Int.reduceToNat] at ho98; rw [← Ny328.out] at ho98)); have n0_ := Aside0.mk (Kd.R_lower ho98 (below_size (by repeat (first | (with_reducible first | exact HB.out | apply below_alloc | apply pw_below_drewN | apply below_drew1) | exact HB.out)))); have n1_ := Aside0.mk (below_step (by repeat (first | (with_reducible first | exact HB.out | apply below_alloc | apply pw_below_drewN | apply below_drew1) | exact HB.out)) hb); clear HB; have HO330 := n0_; have HB := n1_; clear n0_ n1_; clear hb ho98; obtain ⟨Ao99, co99, eo99⟩ := Kd.R_slice HO330.out; subst eo99) | ((with_reducible refine gate_callee (f := 19) rfl ?_); refine goesL_ (some 60) rfl rfl Try.func19 (by kernel_rfl) rfl #[.slice Ao99 y328.length co99] rfl (by (try simp only [List.map_toArray, List.map_cons, List.map_nil]); first | done | rfl | (simp only [List.length_drop, List.length_take]; rfl)) ?_; (with_reducible refine (utf_Bytes.calls kj16 _ _ y328 t331 t332 _ ?side1 ?side2 A26.out).mono ?_); (case side1 => repeat (first | exact (Kd.R_reads' HO330.out).2.2 | (with_reducible refine Kd.C_alloc ?_ _) | (with_reducible refine Kd.C_drewN ?_ _) | (with_reducible refine Kd.C_drew ?_))); (case side2 => exact (Kd.R_reads' HO330.out).2.1); rintro e w100 ⟨v333, rfl, ho0, hb⟩; refine ⟨_, rfl, ?_⟩; have n0_ := Aside0.mk (Kd.R_below (by (with_reducible repeat (first | apply Kd.R_alloc | apply Kd.R_drewN | apply Kd.R_drew)); exact HO330.out) hb); have n1_ := Aside0.mk (Kd.R_lower ho0 (below_size (by repeat (first | (with_reducible first | exact HB.out | apply below_alloc | apply pw_below_drewN | apply below_drew1) | exact HB.out)))); have n2_ := Aside0.mk (below_step (by repeat (first | (with_reducible first | exact HB.out | apply below_alloc | apply pw_below_drewN | apply below_drew1) | exact HB.out)) hb); clear HO330; clear HB; have HO330 := n0_; have HO334 := n1_; have HB := n2_; clear n0_ n1_ n2_; (try clear hb); (try clear hb2); (try clear hk); (try clear hi); (try clear ho0)) | ((with_reducible refine gate_callee (f := 11) rfl ?_); refine goesL_ (some 64) rfl rfl Try.func11 (by kernel_rfl) rfl #[.int .i64 t332] rfl (by (try simp only [List.map_toArray, List.map_cons, List.map_nil]); first | done | rfl | (simp only [List.length_drop, List.length_take]; rfl)) ?_; (with_reducible refine (gangwaylaw2_num.calls t332 t335 _ A27.out).mono ?_); rintro e w' ⟨rfl, ⟨nd, rfl⟩⟩; refine ⟨_, rfl, ?_⟩))
                                            go_roundg kj16
                                            case measure => have := HK1.out; have := HK2.out; have := HJ13.out; have := HK4.out; have := HJ16.out; omega
                                            case rel => exact ⟨(wrap64 (x5_4 + 1)), (by first | rfl | (simp; done) | (simp [*]; done)), H', ⟨by have := HK1.out; have := HK2.out; have := HJ13.out; have := HK4.out; have := HJ16.out; omega⟩, ⟨by repeat (first | (with_reducible first | exact HB.out | apply below_alloc | apply pw_below_drewN | apply below_drew1) | exact HB.out)⟩⟩
                                        · rw [if_neg c91] at H
                                          have c91b0 : decide (57343 < (rd ((rd_T27 l0 x4_2).f1) x5_4)) = false := decide_eq_false c91
                                          clear c91
                                          have H' := Aside0.mk H
                                          clear H
                                          have p326 : 0 ≤ (x4_2 : Int) := of_decide_eq_true (by first | (with_reducible assumption) | assumption)
                                          have q326 : x4_2 < (l0.length : Int) := of_decide_eq_true (by first | (with_reducible assumption) | assumption)
                                          obtain ⟨ad326, A326_0, c326_0, A326_1, c326_1, e326, hx326_0, hx326_1, hl326_0, hi326_0, hl326_1, hi326_1⟩ := at_T27 HR0.out x4_2 p326 q326
                                          cases e326
                                          replace hx326_0 := (HB.out.cell (World.block_lt_of_cell? w _ hx326_0)).trans hx326_0
                                          replace hx326_1 := (HB.out.cell (World.block_lt_of_cell? w _ hx326_1)).trans hx326_1
                                          have HR326_0 := Aside0.mk hi326_0
                                          have HC326_0 := Aside0.mk hl326_0
                                          clear hi326_0 hl326_0
                                          have HR326_1 := Aside0.mk hi326_1
                                          have HC326_1 := Aside0.mk hl326_1
                                          clear hi326_1 hl326_1
                                          replace p326 := eq_true p326
                                          replace q326 := eq_true q326
                                          have p327 : 0 ≤ (x5_4 : Int) := of_decide_eq_true (by first | (with_reducible assumption) | assumption)
                                          have q327 : x5_4 < (((rd_T27 l0 x4_2).f1).length : Int) := of_decide_eq_true (by first | (with_reducible assumption) | assumption)
                                          obtain ⟨ad327, e327, hx327_0⟩ := Kd.at_int HR326_1.out x5_4 p327 q327
                                          cases e327
                                          replace hx327_0 := (HB.out.cell (World.block_lt_of_cell? w _ hx327_0)).trans hx327_0
                                          replace p327 := eq_true p327
                                          replace q327 := eq_true q327
                                          go_wp2_with (first | ((with_reducible refine gate_dst (N := 59) rfl ?_); refine Kd.R_lit (Kd.int .i32) _ 21 ?hg (N := 59) ?hd (xs := ([rd ((rd_T27 l0 x4_2).f1) x5_4] : List Int)) (inner := [.int .i32 (rd ((rd_T27 l0 x4_2).f1) x5_4)]) (ok := fun _ => True) (okp := fun _ => True) ?hr ?hp (fun _ hk => hk) trivial (Below.refl _ _) (Nat.le_refl _) (by simp) ?_; (case hd => rfl); (case hg => rfl); (case hr => first | (go_simp; done) | (go_simp; rfl)); (case hp => exact (Reps.one (show Kd.M (Kd.int .i32) _ _ _ (rd ((rd_T27 l0 x4_2).f1) x5_4) [.int .i32 (rd ((rd_T27 l0 x4_2).f1) x5_4)] from rfl) (Reps.none _ _))); intro v329 w101 ho102 hb hg_ hnew_; clear hg_ hnew_; (first | rw [← Ny328.out] at ho102 | (simp only [Int.reduceToNat] at ho102; rw [← Ny328.out] at ho102)); have n0_ := Aside0.mk (Kd.R_lower ho102 (below_size (by repeat (first | (with_reducible first | exact HB.out | apply below_alloc | apply pw_below_drewN | apply below_drew1) | exact HB.out)))); have n1_ := Aside0.mk (below_step (by repeat (first | (with_reducible first | exact HB.out | apply below_alloc | apply pw_below_drewN | apply below_drew1) | exact HB.out)) hb); clear HB; have HO330 := n0_; have HB := n1_; clear n0_ n1_; clear hb ho102; obtain ⟨Ao103, co103, eo103⟩ := Kd.R_slice HO330.out; subst eo103) | ((with_reducible refine gate_callee (f := 19) rfl ?_); refine goesL_ (some 60) rfl rfl Try.func19 (by kernel_rfl) rfl #[.slice Ao103 y328.length co103] rfl (by (try simp only [List.map_toArray, List.map_cons, List.map_nil]); first | done | rfl | (simp only [List.length_drop, List.length_take]; rfl)) ?_; (with_reducible refine (utf_Bytes.calls kj16 _ _ y328 t331 t332 _ ?side1 ?side2 A26.out).mono ?_); (case side1 => repeat (first | exact (Kd.R_reads' HO330.out).2.2 | (with_reducible refine Kd.C_alloc ?_ _) | (with_reducible refine Kd.C_drewN ?_ _) | (with_reducible refine Kd.C_drew ?_))); (case side2 => exact (Kd.R_reads' HO330.out).2.1); rintro e w104 ⟨v333, rfl, ho0, hb⟩; refine ⟨_, rfl, ?_⟩; have n0_ := Aside0.mk (Kd.R_below (by (with_reducible repeat (first | apply Kd.R_alloc | apply Kd.R_drewN | apply Kd.R_drew)); exact HO330.out) hb); have n1_ := Aside0.mk (Kd.R_lower ho0 (below_size (by repeat (first | (with_reducible first | exact HB.out | apply below_alloc | apply pw_below_drewN | apply below_drew1) | exact HB.out)))); have n2_ := Aside0.mk (below_step (by repeat (first | (with_reducible first | exact HB.out | apply below_alloc | apply pw_below_drewN | apply below_drew1) | exact HB.out)) hb); clear HO330; clear HB; have HO330 := n0_; have HO334 := n1_; have HB := n2_; clear n0_ n1_ n2_; (try clear hb); (try clear hb2); (try clear hk); (try clear hi); (try clear ho0)) | ((with_reducible refine gate_callee (f := 11) rfl ?_); refine goesL_ (some 64) rfl rfl Try.func11 (by kernel_rfl) rfl #[.int .i64 t332] rfl (by (try simp only [List.map_toArray, List.map_cons, List.map_nil]); first | done | rfl | (simp only [List.length_drop, List.length_take]; rfl)) ?_; (with_reducible refine (gangwaylaw2_num.calls t332 t335 _ A27.out).mono ?_); rintro e w' ⟨rfl, ⟨nd, rfl⟩⟩; refine ⟨_, rfl, ?_⟩))
                                          go_roundg kj16
                                          case measure => have := HK1.out; have := HK2.out; have := HJ13.out; have := HK4.out; have := HJ16.out; omega
                                          case rel => exact ⟨(wrap64 (x5_4 + 1)), (by first | rfl | (simp; done) | (simp [*]; done)), H', ⟨by have := HK1.out; have := HK2.out; have := HJ13.out; have := HK4.out; have := HJ16.out; omega⟩, ⟨by repeat (first | (with_reducible first | exact HB.out | apply below_alloc | apply pw_below_drewN | apply below_drew1) | exact HB.out)⟩⟩
                                  · rw [if_neg c25] at H
                                    exact absurd H (by simp)
                                · rw [if_neg c24] at H
                                  exact absurd H (by simp)
                              · rw [if_neg c23] at H
                                exact absurd H (by simp)
                            · rw [if_neg c22] at H
                              exact absurd H (by simp)
                          · replace c21 := Bool.eq_false_iff.mpr c21
                            subst c21
                            have H1 : (gangwaylaw2_UtfOnes.l1 kj16 l0 (wrap64 (x4_2 + 1))) = some r := by rw [if_neg (show ¬ (false = true) by decide)] at H; exact H
                            clear H
                            have H := H1
                            clear H1
                            have H' := Aside0.mk H
                            clear H
                            go_wp2
                            go_roundg kj16
                            case measure => have := HK1.out; have := HK2.out; have := HJ13.out; have := HK4.out; have := HJ16.out; omega
                            case rel => exact ⟨(wrap64 (x4_2 + 1)), (by first | rfl | (simp; done) | (simp [*]; done)), H', ⟨by have := HK1.out; have := HK2.out; have := HJ13.out; have := HK4.out; have := HJ16.out; omega⟩, ⟨by repeat (first | (with_reducible first | exact HB.out | apply below_alloc | apply pw_below_drewN | apply below_drew1) | exact HB.out)⟩⟩
                · replace c16 := Bool.eq_false_iff.mpr c16
                  subst c16
                  have H1 : ((gangwaylaw2_wakes.f kj13).bind fun t324 => (some t324)) = some r := by rw [if_neg (show ¬ (false = true) by decide)] at H; exact H
                  clear H
                  have H := H1
                  clear H1
                  replace H := Option.bind_eq_some_iff.mp H
                  obtain ⟨t324, A1050, H⟩ := H
                  replace H : (some t324) = some r := H
                  have A105 := Aside0.mk A1050
                  clear A1050
                  obtain rfl := Option.some.inj H
                  go_wp2_with (first | ((with_reducible refine gate_callee (f := 16) rfl ?_); refine goesL_ (some 120) rfl rfl Try.func16 (by kernel_rfl) rfl #[] rfl (by (try simp only [List.map_toArray, List.map_cons, List.map_nil]); first | done | rfl | (simp only [List.length_drop, List.length_take]; rfl)) ?_; (with_reducible refine (gangwaylaw2_wakes.calls kj13  t324 _ A105.out).mono ?_); rintro e w106 ⟨rfl, hb⟩; refine ⟨_, rfl, ?_⟩; have n0_ := Aside0.mk (below_step (by repeat (first | (with_reducible first | exact HB.out | apply below_alloc | apply pw_below_drewN | apply below_drew1) | exact HB.out)) hb); clear HB; have HB := n0_; clear n0_; (try clear hb); (try clear hb2); (try clear hk); (try clear hi)))
                  go_ret
                  exact ⟨by first | rfl | (simp [errW_none, errW_some] <;> rfl) | (simp [*, errW_none, errW_some] <;> rfl), by repeat (first | (with_reducible first | exact HB.out | apply below_alloc | apply pw_below_drewN | apply below_drew1) | exact HB.out)⟩

/-- THE ONE PURE STATEMENT of gangwaylaw2_UtfOnes: yours. -/
def gangwaylaw2_UtfOnes.Pure : Prop := ∀ (x0 : List (S27)), (x0.length * 48 ≤ 140737488351232 ∧ ∀ y349 ∈ x0, okT27 y349) → ∃ k, gangwaylaw2_UtfOnes.f k x0 = some true
theorem gangwaylaw2_UtfOnes.walk (P : gangwaylaw2_UtfOnes.Pure) (w : World) (x0 : List (S27)) (A0 : Option Addr) (c0 : Nat) (hr0 : Kd.C k27 w A0 x0.length x0) (hc0 : x0.length ≤ c0) (hok0 : (x0.length * 48 ≤ 140737488351232 ∧ ∀ y350 ∈ x0, okT27 y350)) :
    Calls Try.prog 6 #[.slice A0 x0.length c0] w fun e w' => e = .returned (.bool true) ∧ Below w.heap.size w w' := by
  obtain ⟨k, h⟩ := P x0 hok0
  refine (gangwaylaw2_UtfOnes.calls k _ _ x0 true w hr0 hc0 h).mono ?_
  rintro e w' ⟨rfl, hd⟩
  exact ⟨rfl, hd⟩

end Go.Proofs.Ytlggampmmlkkeaa.PAll
