/- Printed by a copy of the printer that was turned for this claim: functions as plain Lean functions, with proofs that their calls come to these; or words that such proofs use. -/
import Derived.Test.YtgmlnigelbplnaaPAllx0
import Derived.Test.YtgmlnigelbplnaaPAllx1
import Derived.Test.YtgmlnigelbplnaaPAllx2
import Derived.Test.YtgmlnigelbplnaaPAllx3
import Derived.Test.YtgmlnigelbplnaaPAllx4
import Derived.Test.YtgmlnigelbplnaaPAllx7
import Derived.Test.YtgmlnigelbplnaaPAllx8
namespace Go.Proofs.Ytgmlnigelbplnaa.PAll
open Go.RowKit Go.Proofs.YtgmlnigelbplnaaW.PrintWords Go.Proofs.YtgmlnigelbplnaaW.PrintLast Go.Proofs.YtgmlnigelbplnaaW.PrintMore
attribute [local go_sem] max2_int min2_int max_two min_two max_three min_three max_four min_four   -- for this text's walks alone
set_option linter.unusedVariables false
set_option linter.unusedSimpArgs false

/-! ### gangwaylaw1_LebBack: function 6 -/
theorem gangwaylaw1_LebBack.up {w w' : World} {a : Addr} {v : Value} (hb : Aside0 (Below w.heap.size w w')) (h : w.cell? a = some v) : w'.cell? a = some v := (hb.out.cell (World.block_lt_of_cell? w _ h)).trans h
mutual
def gangwaylaw1_LebBack.l0 : Nat → List (S26) → Int → Option (Bool)
 | 0, _, _ => none
 | k + 1, x0, x3 => if x3 < (x0.length : Int) then (gangwaylaw1_LebBack.j1 k x0 x3 (decide (x3 < 30))) else (gangwaylaw1_LebBack.j1 k x0 x3 false)
def gangwaylaw1_LebBack.j1 : Nat → List (S26) → Int → Bool → Option (Bool)
 | 0, _, _, _ => none
 | k + 1, x0, x3, x29 => if x29 = true then (if 0 ≤ x3 then (if x3 < (x0.length : Int) then ((leb_PutUint.f k ((rd_T26 x0 x3).f2)).bind fun t222 => ((gangwayref0_CopyBytes.f k t222).bind fun t225 => (if t225.length + ((rd_T26 x0 x3).f0).length < 140737488355328 then ((leb_Uint.f k (t225 ++ ((rd_T26 x0 x3).f0)) 64).bind fun bt231 => ((gangwaylaw1_num.f bt231.2.2).bind fun t234 => (if t234 = 0 then (if bt231.1 = ((rd_T26 x0 x3).f2) then (if bt231.2.1 = (t222.length : Int) then (if bt231.2.1 < 1 then (gangwaylaw1_LebBack.j2 k x0 x3 t222 true ((rd_T26 x0 x3).f0) ((rd_T26 x0 x3).f1) ((rd_T26 x0 x3).f2) ((rd_T26 x0 x3).f3)) else (gangwaylaw1_LebBack.j2 k x0 x3 t222 (decide (bt231.2.1 > 10)) ((rd_T26 x0 x3).f0) ((rd_T26 x0 x3).f1) ((rd_T26 x0 x3).f2) ((rd_T26 x0 x3).f3))) else (gangwaylaw1_LebBack.j2 k x0 x3 t222 true ((rd_T26 x0 x3).f0) ((rd_T26 x0 x3).f1) ((rd_T26 x0 x3).f2) ((rd_T26 x0 x3).f3))) else (gangwaylaw1_LebBack.j2 k x0 x3 t222 true ((rd_T26 x0 x3).f0) ((rd_T26 x0 x3).f1) ((rd_T26 x0 x3).f2) ((rd_T26 x0 x3).f3))) else (gangwaylaw1_LebBack.j2 k x0 x3 t222 true ((rd_T26 x0 x3).f0) ((rd_T26 x0 x3).f1) ((rd_T26 x0 x3).f2) ((rd_T26 x0 x3).f3))))) else (none)))) else (none)) else (none)) else ((gangwaylaw1_wakes.f k).bind fun t219 => (some t219))
def gangwaylaw1_LebBack.j2 : Nat → List (S26) → Int → List Int → Bool → List Int → Int → Int → Int → Option (Bool)
 | 0, _, _, _, _, _, _, _, _ => none
 | k + 1, x0, x3, x5, x71, x222000, x222001, x222002, x222003 => if x71 = true then (some false) else ((leb_PutSint.f k x222003).bind fun t235 => ((gangwayref0_CopyBytes.f k t235).bind fun t238 => (if t238.length + x222000.length < 140737488355328 then ((leb_Sint.f k (t238 ++ x222000) 64).bind fun bt244 => ((gangwaylaw1_num.f bt244.2.2).bind fun t247 => (if t247 = 0 then (if bt244.1 = x222003 then (if bt244.2.1 = (t235.length : Int) then (if bt244.2.1 < 1 then (gangwaylaw1_LebBack.j3 k x0 x3 x5 t235 true x222000 x222001 x222002 x222003) else (gangwaylaw1_LebBack.j3 k x0 x3 x5 t235 (decide (bt244.2.1 > 10)) x222000 x222001 x222002 x222003)) else (gangwaylaw1_LebBack.j3 k x0 x3 x5 t235 true x222000 x222001 x222002 x222003)) else (gangwaylaw1_LebBack.j3 k x0 x3 x5 t235 true x222000 x222001 x222002 x222003)) else (gangwaylaw1_LebBack.j3 k x0 x3 x5 t235 true x222000 x222001 x222002 x222003)))) else (none))))
def gangwaylaw1_LebBack.j3 : Nat → List (S26) → Int → List Int → List Int → Bool → List Int → Int → Int → Int → Option (Bool)
 | 0, _, _, _, _, _, _, _, _, _ => none
 | k + 1, x0, x3, x5, x9, x107, x222000, x222001, x222002, x222003 => if x107 = true then (some false) else (if 0 ≤ (wrap64 ((x5.length : Int) - 1)) then (if (wrap64 ((x5.length : Int) - 1)) ≤ (x5.length : Int) then ((leb_Uint.f k (x5.take ((wrap64 ((x5.length : Int) - 1)) : Int).toNat) 64).bind fun bt252 => (if 0 ≤ (wrap64 ((x9.length : Int) - 1)) then (if (wrap64 ((x9.length : Int) - 1)) ≤ (x9.length : Int) then ((leb_Sint.f k (x9.take ((wrap64 ((x9.length : Int) - 1)) : Int).toNat) 64).bind fun bt259 => ((gangwaylaw1_num.f bt252.2.2).bind fun t262 => (if t262 = 100 then ((gangwaylaw1_num.f bt259.2.2).bind fun t263 => (gangwaylaw1_LebBack.j4 k x0 x3 x5 x9 (t263 != 100) x222000 x222001 x222002 x222003)) else (gangwaylaw1_LebBack.j4 k x0 x3 x5 x9 true x222000 x222001 x222002 x222003)))) else (none)) else (none))) else (none)) else (none))
def gangwaylaw1_LebBack.j4 : Nat → List (S26) → Int → List Int → List Int → Bool → List Int → Int → Int → Int → Option (Bool)
 | 0, _, _, _, _, _, _, _, _, _ => none
 | k + 1, x0, x3, x5, x9, x135, x222000, x222001, x222002, x222003 => if x135 = true then (some false) else (if (x5.length : Int) < 10 then ((gangwayref0_CopyBytes.f k x5).bind fun t264 => (if 0 ≤ (wrap64 ((t264.length : Int) - 1)) then (if (wrap64 ((t264.length : Int) - 1)) < (t264.length : Int) then ((some (t264.set ((wrap64 ((t264.length : Int) - 1)) : Int).toNat (Go.bits .or .u8 (rd t264 (wrap64 ((t264.length : Int) - 1))) 128) : List Int)).bind fun y268 => (if y268.length < 140737488355328 then ((leb_Uint.f k (y268 ++ [0]) 64).bind fun bt272 => ((gangwaylaw1_num.f bt272.2.2).bind fun t275 => (if t275 = 0 then (if bt272.1 = x222002 then (if bt272.2.1 = (wrap64 ((x5.length : Int) + 1)) then (gangwaylaw1_LebBack.j5 k x0 x3 x9 x222000 x222001 x222002 x222003) else (some false)) else (some false)) else (some false)))) else (none))) else (none)) else (none))) else (gangwaylaw1_LebBack.j5 k x0 x3 x9 x222000 x222001 x222002 x222003))
def gangwaylaw1_LebBack.j5 : Nat → List (S26) → Int → List Int → List Int → Int → Int → Int → Option (Bool)
 | 0, _, _, _, _, _, _, _ => none
 | k + 1, x0, x3, x9, x222000, x222001, x222002, x222003 => if (x9.length : Int) < 10 then ((gangwayref0_CopyBytes.f k x9).bind fun t276 => (if 0 ≤ (wrap64 ((t276.length : Int) - 1)) then (if (wrap64 ((t276.length : Int) - 1)) < (t276.length : Int) then ((some (t276.set ((wrap64 ((t276.length : Int) - 1)) : Int).toNat (Go.bits .or .u8 (rd t276 (wrap64 ((t276.length : Int) - 1))) 128) : List Int)).bind fun y280 => (if x222003 < 0 then (gangwaylaw1_LebBack.j6 k x0 x3 x9 y280 127 x222000 x222001 x222002 x222003) else (gangwaylaw1_LebBack.j6 k x0 x3 x9 y280 0 x222000 x222001 x222002 x222003))) else (none)) else (none))) else (gangwaylaw1_LebBack.l0 k x0 (wrap64 (x3 + 1)))
def gangwaylaw1_LebBack.j6 : Nat → List (S26) → Int → List Int → List Int → Int → List Int → Int → Int → Int → Option (Bool)
 | 0, _, _, _, _, _, _, _, _, _ => none
 | k + 1, x0, x3, x9, x20, x21, x222000, x222001, x222002, x222003 => if x20.length < 140737488355328 then ((leb_Sint.f k (x20 ++ [x21]) 64).bind fun bt284 => ((gangwaylaw1_num.f bt284.2.2).bind fun t287 => (if t287 = 0 then (if bt284.1 = x222003 then (if bt284.2.1 = (wrap64 ((x9.length : Int) + 1)) then (gangwaylaw1_LebBack.l0 k x0 (wrap64 (x3 + 1))) else (some false)) else (some false)) else (some false)))) else (none)
end
def gangwaylaw1_LebBack.f (k : Nat) (l0 : List (S26)) : Option (Bool) := gangwaylaw1_LebBack.l0 k l0 0
theorem gangwaylaw1_LebBack.mono_l : ∀ k, (∀ y0 y1, LeO (gangwaylaw1_LebBack.l0 k y0 y1) (gangwaylaw1_LebBack.l0 (k + 1) y0 y1)) ∧ (∀ y0 y1 y2, LeO (gangwaylaw1_LebBack.j1 k y0 y1 y2) (gangwaylaw1_LebBack.j1 (k + 1) y0 y1 y2)) ∧ (∀ y0 y1 y2 y3 y4 y5 y6 y7, LeO (gangwaylaw1_LebBack.j2 k y0 y1 y2 y3 y4 y5 y6 y7) (gangwaylaw1_LebBack.j2 (k + 1) y0 y1 y2 y3 y4 y5 y6 y7)) ∧ (∀ y0 y1 y2 y3 y4 y5 y6 y7 y8, LeO (gangwaylaw1_LebBack.j3 k y0 y1 y2 y3 y4 y5 y6 y7 y8) (gangwaylaw1_LebBack.j3 (k + 1) y0 y1 y2 y3 y4 y5 y6 y7 y8)) ∧ (∀ y0 y1 y2 y3 y4 y5 y6 y7 y8, LeO (gangwaylaw1_LebBack.j4 k y0 y1 y2 y3 y4 y5 y6 y7 y8) (gangwaylaw1_LebBack.j4 (k + 1) y0 y1 y2 y3 y4 y5 y6 y7 y8)) ∧ (∀ y0 y1 y2 y3 y4 y5 y6, LeO (gangwaylaw1_LebBack.j5 k y0 y1 y2 y3 y4 y5 y6) (gangwaylaw1_LebBack.j5 (k + 1) y0 y1 y2 y3 y4 y5 y6)) ∧ (∀ y0 y1 y2 y3 y4 y5 y6 y7 y8, LeO (gangwaylaw1_LebBack.j6 k y0 y1 y2 y3 y4 y5 y6 y7 y8) (gangwaylaw1_LebBack.j6 (k + 1) y0 y1 y2 y3 y4 y5 y6 y7 y8))
 | 0 => ⟨fun _ _ r h => by simp [gangwaylaw1_LebBack.l0] at h, fun _ _ _ r h => by simp [gangwaylaw1_LebBack.j1] at h, fun _ _ _ _ _ _ _ _ r h => by simp [gangwaylaw1_LebBack.j2] at h, fun _ _ _ _ _ _ _ _ _ r h => by simp [gangwaylaw1_LebBack.j3] at h, fun _ _ _ _ _ _ _ _ _ r h => by simp [gangwaylaw1_LebBack.j4] at h, fun _ _ _ _ _ _ _ r h => by simp [gangwaylaw1_LebBack.j5] at h, fun _ _ _ _ _ _ _ _ _ r h => by simp [gangwaylaw1_LebBack.j6] at h⟩
 | k + 1 => by
  obtain ⟨ih0, ih1, ih2, ih3, ih4, ih5, ih6⟩ := gangwaylaw1_LebBack.mono_l k
  refine ⟨?_, ?_, ?_, ?_, ?_, ?_, ?_⟩
  ·intro y0 y1
   unfold gangwaylaw1_LebBack.l0
   repeat' first
   | (with_reducible exact ih0 _ _)
   | (with_reducible exact ih1 _ _ _)
   | (with_reducible exact ih2 _ _ _ _ _ _ _ _)
   | (with_reducible exact ih3 _ _ _ _ _ _ _ _ _)
   | (with_reducible exact ih4 _ _ _ _ _ _ _ _ _)
   | (with_reducible exact ih5 _ _ _ _ _ _ _)
   | (with_reducible exact ih6 _ _ _ _ _ _ _ _ _)
   | (with_reducible exact gangwaylaw1_wakes.mono _)
   | (with_reducible exact gangwayref0_CopyBytes.mono _ _)
   | (with_reducible exact leb_PutSint.mono _ _)
   | (with_reducible exact leb_PutUint.mono _ _)
   | (with_reducible exact leb_Sint.mono _ _ _)
   | (with_reducible exact leb_Uint.mono _ _ _)
   | (with_reducible exact LeO.refl _)
   | (with_reducible exact LeO.none _)
   | (with_reducible refine LeO.ite ?_ ?_)
   | (with_reducible refine LeO.bind ?_ (fun _ => ?_))
   | exact ih0 _ _
   | exact ih1 _ _ _
   | exact ih2 _ _ _ _ _ _ _ _
   | exact ih3 _ _ _ _ _ _ _ _ _
   | exact ih4 _ _ _ _ _ _ _ _ _
   | exact ih5 _ _ _ _ _ _ _
   | exact ih6 _ _ _ _ _ _ _ _ _
   | exact gangwaylaw1_wakes.mono _
   | exact gangwayref0_CopyBytes.mono _ _
   | exact leb_PutSint.mono _ _
   | exact leb_PutUint.mono _ _
   | exact leb_Sint.mono _ _ _
   | exact leb_Uint.mono _ _ _
   | exact LeO.none _
   | refine LeO.ite ?_ ?_
   | refine LeO.bind ?_ (fun _ => ?_)
  ·intro y0 y1 y2
   unfold gangwaylaw1_LebBack.j1
   repeat' first
   | (with_reducible exact ih0 _ _)
   | (with_reducible exact ih1 _ _ _)
   | (with_reducible exact ih2 _ _ _ _ _ _ _ _)
   | (with_reducible exact ih3 _ _ _ _ _ _ _ _ _)
   | (with_reducible exact ih4 _ _ _ _ _ _ _ _ _)
   | (with_reducible exact ih5 _ _ _ _ _ _ _)
   | (with_reducible exact ih6 _ _ _ _ _ _ _ _ _)
   | (with_reducible exact gangwaylaw1_wakes.mono _)
   | (with_reducible exact gangwayref0_CopyBytes.mono _ _)
   | (with_reducible exact leb_PutSint.mono _ _)
   | (with_reducible exact leb_PutUint.mono _ _)
   | (with_reducible exact leb_Sint.mono _ _ _)
   | (with_reducible exact leb_Uint.mono _ _ _)
   | (with_reducible exact LeO.refl _)
   | (with_reducible exact LeO.none _)
   | (with_reducible refine LeO.ite ?_ ?_)
   | (with_reducible refine LeO.bind ?_ (fun _ => ?_))
   | exact ih0 _ _
   | exact ih1 _ _ _
   | exact ih2 _ _ _ _ _ _ _ _
   | exact ih3 _ _ _ _ _ _ _ _ _
   | exact ih4 _ _ _ _ _ _ _ _ _
   | exact ih5 _ _ _ _ _ _ _
   | exact ih6 _ _ _ _ _ _ _ _ _
   | exact gangwaylaw1_wakes.mono _
   | exact gangwayref0_CopyBytes.mono _ _
   | exact leb_PutSint.mono _ _
   | exact leb_PutUint.mono _ _
   | exact leb_Sint.mono _ _ _
   | exact leb_Uint.mono _ _ _
   | exact LeO.none _
   | refine LeO.ite ?_ ?_
   | refine LeO.bind ?_ (fun _ => ?_)
  ·intro y0 y1 y2 y3 y4 y5 y6 y7
   unfold gangwaylaw1_LebBack.j2
   repeat' first
   | (with_reducible exact ih0 _ _)
   | (with_reducible exact ih1 _ _ _)
   | (with_reducible exact ih2 _ _ _ _ _ _ _ _)
   | (with_reducible exact ih3 _ _ _ _ _ _ _ _ _)
   | (with_reducible exact ih4 _ _ _ _ _ _ _ _ _)
   | (with_reducible exact ih5 _ _ _ _ _ _ _)
   | (with_reducible exact ih6 _ _ _ _ _ _ _ _ _)
   | (with_reducible exact gangwaylaw1_wakes.mono _)
   | (with_reducible exact gangwayref0_CopyBytes.mono _ _)
   | (with_reducible exact leb_PutSint.mono _ _)
   | (with_reducible exact leb_PutUint.mono _ _)
   | (with_reducible exact leb_Sint.mono _ _ _)
   | (with_reducible exact leb_Uint.mono _ _ _)
   | (with_reducible exact LeO.refl _)
   | (with_reducible exact LeO.none _)
   | (with_reducible refine LeO.ite ?_ ?_)
   | (with_reducible refine LeO.bind ?_ (fun _ => ?_))
   | exact ih0 _ _
   | exact ih1 _ _ _
   | exact ih2 _ _ _ _ _ _ _ _
   | exact ih3 _ _ _ _ _ _ _ _ _
   | exact ih4 _ _ _ _ _ _ _ _ _
   | exact ih5 _ _ _ _ _ _ _
   | exact ih6 _ _ _ _ _ _ _ _ _
   | exact gangwaylaw1_wakes.mono _
   | exact gangwayref0_CopyBytes.mono _ _
   | exact leb_PutSint.mono _ _
   | exact leb_PutUint.mono _ _
   | exact leb_Sint.mono _ _ _
   | exact leb_Uint.mono _ _ _
   | exact LeO.none _
   | refine LeO.ite ?_ ?_
   | refine LeO.bind ?_ (fun _ => ?_)
  ·intro y0 y1 y2 y3 y4 y5 y6 y7 y8
   unfold gangwaylaw1_LebBack.j3
   repeat' first
   | (with_reducible exact ih0 _ _)
   | (with_reducible exact ih1 _ _ _)
   | (with_reducible exact ih2 _ _ _ _ _ _ _ _)
   | (with_reducible exact ih3 _ _ _ _ _ _ _ _ _)
   | (with_reducible exact ih4 _ _ _ _ _ _ _ _ _)
   | (with_reducible exact ih5 _ _ _ _ _ _ _)
   | (with_reducible exact ih6 _ _ _ _ _ _ _ _ _)
   | (with_reducible exact gangwaylaw1_wakes.mono _)
   | (with_reducible exact gangwayref0_CopyBytes.mono _ _)
   | (with_reducible exact leb_PutSint.mono _ _)
   | (with_reducible exact leb_PutUint.mono _ _)
   | (with_reducible exact leb_Sint.mono _ _ _)
   | (with_reducible exact leb_Uint.mono _ _ _)
   | (with_reducible exact LeO.refl _)
   | (with_reducible exact LeO.none _)
   | (with_reducible refine LeO.ite ?_ ?_)
   | (with_reducible refine LeO.bind ?_ (fun _ => ?_))
   | exact ih0 _ _
   | exact ih1 _ _ _
   | exact ih2 _ _ _ _ _ _ _ _
   | exact ih3 _ _ _ _ _ _ _ _ _
   | exact ih4 _ _ _ _ _ _ _ _ _
   | exact ih5 _ _ _ _ _ _ _
   | exact ih6 _ _ _ _ _ _ _ _ _
   | exact gangwaylaw1_wakes.mono _
   | exact gangwayref0_CopyBytes.mono _ _
   | exact leb_PutSint.mono _ _
   | exact leb_PutUint.mono _ _
   | exact leb_Sint.mono _ _ _
   | exact leb_Uint.mono _ _ _
   | exact LeO.none _
   | refine LeO.ite ?_ ?_
   | refine LeO.bind ?_ (fun _ => ?_)
  ·intro y0 y1 y2 y3 y4 y5 y6 y7 y8
   unfold gangwaylaw1_LebBack.j4
   repeat' first
   | (with_reducible exact ih0 _ _)
   | (with_reducible exact ih1 _ _ _)
   | (with_reducible exact ih2 _ _ _ _ _ _ _ _)
   | (with_reducible exact ih3 _ _ _ _ _ _ _ _ _)
   | (with_reducible exact ih4 _ _ _ _ _ _ _ _ _)
   | (with_reducible exact ih5 _ _ _ _ _ _ _)
   | (with_reducible exact ih6 _ _ _ _ _ _ _ _ _)
   | (with_reducible exact gangwaylaw1_wakes.mono _)
   | (with_reducible exact gangwayref0_CopyBytes.mono _ _)
   | (with_reducible exact leb_PutSint.mono _ _)
   | (with_reducible exact leb_PutUint.mono _ _)
   | (with_reducible exact leb_Sint.mono _ _ _)
   | (with_reducible exact leb_Uint.mono _ _ _)
   | (with_reducible exact LeO.refl _)
   | (with_reducible exact LeO.none _)
   | (with_reducible refine LeO.ite ?_ ?_)
   | (with_reducible refine LeO.bind ?_ (fun _ => ?_))
   | exact ih0 _ _
   | exact ih1 _ _ _
   | exact ih2 _ _ _ _ _ _ _ _
   | exact ih3 _ _ _ _ _ _ _ _ _
   | exact ih4 _ _ _ _ _ _ _ _ _
   | exact ih5 _ _ _ _ _ _ _
   | exact ih6 _ _ _ _ _ _ _ _ _
   | exact gangwaylaw1_wakes.mono _
   | exact gangwayref0_CopyBytes.mono _ _
   | exact leb_PutSint.mono _ _
   | exact leb_PutUint.mono _ _
   | exact leb_Sint.mono _ _ _
   | exact leb_Uint.mono _ _ _
   | exact LeO.none _
   | refine LeO.ite ?_ ?_
   | refine LeO.bind ?_ (fun _ => ?_)
  ·intro y0 y1 y2 y3 y4 y5 y6
   unfold gangwaylaw1_LebBack.j5
   repeat' first
   | (with_reducible exact ih0 _ _)
   | (with_reducible exact ih1 _ _ _)
   | (with_reducible exact ih2 _ _ _ _ _ _ _ _)
   | (with_reducible exact ih3 _ _ _ _ _ _ _ _ _)
   | (with_reducible exact ih4 _ _ _ _ _ _ _ _ _)
   | (with_reducible exact ih5 _ _ _ _ _ _ _)
   | (with_reducible exact ih6 _ _ _ _ _ _ _ _ _)
   | (with_reducible exact gangwaylaw1_wakes.mono _)
   | (with_reducible exact gangwayref0_CopyBytes.mono _ _)
   | (with_reducible exact leb_PutSint.mono _ _)
   | (with_reducible exact leb_PutUint.mono _ _)
   | (with_reducible exact leb_Sint.mono _ _ _)
   | (with_reducible exact leb_Uint.mono _ _ _)
   | (with_reducible exact LeO.refl _)
   | (with_reducible exact LeO.none _)
   | (with_reducible refine LeO.ite ?_ ?_)
   | (with_reducible refine LeO.bind ?_ (fun _ => ?_))
   | exact ih0 _ _
   | exact ih1 _ _ _
   | exact ih2 _ _ _ _ _ _ _ _
   | exact ih3 _ _ _ _ _ _ _ _ _
   | exact ih4 _ _ _ _ _ _ _ _ _
   | exact ih5 _ _ _ _ _ _ _
   | exact ih6 _ _ _ _ _ _ _ _ _
   | exact gangwaylaw1_wakes.mono _
   | exact gangwayref0_CopyBytes.mono _ _
   | exact leb_PutSint.mono _ _
   | exact leb_PutUint.mono _ _
   | exact leb_Sint.mono _ _ _
   | exact leb_Uint.mono _ _ _
   | exact LeO.none _
   | refine LeO.ite ?_ ?_
   | refine LeO.bind ?_ (fun _ => ?_)
  ·intro y0 y1 y2 y3 y4 y5 y6 y7 y8
   unfold gangwaylaw1_LebBack.j6
   repeat' first
   | (with_reducible exact ih0 _ _)
   | (with_reducible exact ih1 _ _ _)
   | (with_reducible exact ih2 _ _ _ _ _ _ _ _)
   | (with_reducible exact ih3 _ _ _ _ _ _ _ _ _)
   | (with_reducible exact ih4 _ _ _ _ _ _ _ _ _)
   | (with_reducible exact ih5 _ _ _ _ _ _ _)
   | (with_reducible exact ih6 _ _ _ _ _ _ _ _ _)
   | (with_reducible exact gangwaylaw1_wakes.mono _)
   | (with_reducible exact gangwayref0_CopyBytes.mono _ _)
   | (with_reducible exact leb_PutSint.mono _ _)
   | (with_reducible exact leb_PutUint.mono _ _)
   | (with_reducible exact leb_Sint.mono _ _ _)
   | (with_reducible exact leb_Uint.mono _ _ _)
   | (with_reducible exact LeO.refl _)
   | (with_reducible exact LeO.none _)
   | (with_reducible refine LeO.ite ?_ ?_)
   | (with_reducible refine LeO.bind ?_ (fun _ => ?_))
   | exact ih0 _ _
   | exact ih1 _ _ _
   | exact ih2 _ _ _ _ _ _ _ _
   | exact ih3 _ _ _ _ _ _ _ _ _
   | exact ih4 _ _ _ _ _ _ _ _ _
   | exact ih5 _ _ _ _ _ _ _
   | exact ih6 _ _ _ _ _ _ _ _ _
   | exact gangwaylaw1_wakes.mono _
   | exact gangwayref0_CopyBytes.mono _ _
   | exact leb_PutSint.mono _ _
   | exact leb_PutUint.mono _ _
   | exact leb_Sint.mono _ _ _
   | exact leb_Uint.mono _ _ _
   | exact LeO.none _
   | refine LeO.ite ?_ ?_
   | refine LeO.bind ?_ (fun _ => ?_)
theorem gangwaylaw1_LebBack.mono : ∀ a0 k, LeO (gangwaylaw1_LebBack.f k a0) (gangwaylaw1_LebBack.f (k + 1) a0) := by
 intro a0 k
 obtain ⟨ih0, ih1, ih2, ih3, ih4, ih5, ih6⟩ := gangwaylaw1_LebBack.mono_l k
 unfold gangwaylaw1_LebBack.f
 repeat' first
   | (with_reducible exact ih0 _ _)
   | (with_reducible exact ih1 _ _ _)
   | (with_reducible exact ih2 _ _ _ _ _ _ _ _)
   | (with_reducible exact ih3 _ _ _ _ _ _ _ _ _)
   | (with_reducible exact ih4 _ _ _ _ _ _ _ _ _)
   | (with_reducible exact ih5 _ _ _ _ _ _ _)
   | (with_reducible exact ih6 _ _ _ _ _ _ _ _ _)
   | (with_reducible exact gangwaylaw1_wakes.mono _)
   | (with_reducible exact gangwayref0_CopyBytes.mono _ _)
   | (with_reducible exact leb_PutSint.mono _ _)
   | (with_reducible exact leb_PutUint.mono _ _)
   | (with_reducible exact leb_Sint.mono _ _ _)
   | (with_reducible exact leb_Uint.mono _ _ _)
   | (with_reducible exact LeO.refl _)
   | (with_reducible exact LeO.none _)
   | (with_reducible refine LeO.ite ?_ ?_)
   | (with_reducible refine LeO.bind ?_ (fun _ => ?_))
   | exact ih0 _ _
   | exact ih1 _ _ _
   | exact ih2 _ _ _ _ _ _ _ _
   | exact ih3 _ _ _ _ _ _ _ _ _
   | exact ih4 _ _ _ _ _ _ _ _ _
   | exact ih5 _ _ _ _ _ _ _
   | exact ih6 _ _ _ _ _ _ _ _ _
   | exact gangwaylaw1_wakes.mono _
   | exact gangwayref0_CopyBytes.mono _ _
   | exact leb_PutSint.mono _ _
   | exact leb_PutUint.mono _ _
   | exact leb_Sint.mono _ _ _
   | exact leb_Uint.mono _ _ _
   | exact LeO.none _
   | refine LeO.ite ?_ ?_
   | refine LeO.bind ?_ (fun _ => ?_)
def gangwaylaw1_LebBack.T6 : Bool × List (List Nat × List Nat) := (true, [([], []), ([0], [0]), ([], []), ([2], [2]), ([1, 3, 1], [1, 3]), ([4, 4], [4]), ([5], [5]), ([6], [6]), ([6], [6]), ([6], [6]), ([7, 5, 0, 1, 2, 3, 4, 5, 6, 7], [7]), ([8, 10, 0, 1, 2, 3, 4, 5, 6, 7, 8, 10], [8]), ([9, 11, 0, 1, 2, 3, 4, 5, 6, 7, 8, 9, 10, 11], [9])])
def gangwaylaw1_LebBack.B6 : List Nat := [0, 1, 0, 4, 15, 31, 63, 127, 127, 127, 255, 1535, 4095]
theorem gangwaylaw1_LebBack.tab6 : rtab .any (opsOf Try.f6 6) = gangwaylaw1_LebBack.T6 := by kernel_rfl
theorem gangwaylaw1_LebBack.bits6 : waitsOk gangwaylaw1_LebBack.T6.2 gangwaylaw1_LebBack.B6 = true := by kernel_rfl
def gangwaylaw1_LebBack.T10 : Bool × List (List Nat × List Nat) := (true, [([], []), ([0], [0]), ([], []), ([2], [2]), ([1, 3, 1], [1, 3]), ([4, 4], [4]), ([5], [5]), ([6], [6]), ([6], [6]), ([6], [6]), ([7, 5, 0, 1, 2, 3, 4, 5, 6, 7], [7]), ([8, 10, 0, 1, 2, 3, 4, 5, 6, 7, 8, 10], [8]), ([9, 11, 0, 1, 2, 3, 4, 5, 6, 7, 8, 9, 10, 11], [9])])
def gangwaylaw1_LebBack.B10 : List Nat := [0, 1, 0, 4, 15, 31, 63, 127, 127, 127, 255, 1535, 4095]
theorem gangwaylaw1_LebBack.tab10 : rtab .any (opsOf Try.f6 10) = gangwaylaw1_LebBack.T10 := by kernel_rfl
theorem gangwaylaw1_LebBack.bits10 : waitsOk gangwaylaw1_LebBack.T10.2 gangwaylaw1_LebBack.B10 = true := by kernel_rfl
set_option maxHeartbeats 8000000 in
set_option maxRecDepth 100000 in
theorem gangwaylaw1_LebBack.calls (k : Nat) (A0 : Option Addr) (c0 : Nat) (l0 : List (S26)) (r : Bool) (w : World) (hr0 : Kd.C k26 w A0 l0.length l0) (hc0 : l0.length ≤ c0) (h : gangwaylaw1_LebBack.f k l0 = some r) :
  Calls Try.prog 6 #[.slice A0 l0.length c0] w fun e w' => e = .returned (.bool r) ∧ Below w.heap.size w w' := by
 have hu26 := Try.underlying26
 have HR0 := Aside0.mk hr0
 have HC0 := Aside0.mk hc0
 clear hr0 hc0
 have HB := Aside0.mk (Below.refl w.heap.size w)
 have H : (gangwaylaw1_LebBack.l0 k l0 0) = some r := h
 clear h
 have H' := Aside0.mk H
 clear H
 go_enter Try.func6, Try.ntmps6
 go_wp2
 go_loopg [3] k (fun kq v3 w' => ∃ (x3_1 : Int), v3 = .int .i64 x3_1 ∧ Aside0 (gangwaylaw1_LebBack.l0 kq l0 x3_1 = some r) ∧ Aside0 (kq ≤ k) ∧ Aside0 (Below w.heap.size w w'))
 case atStart => exact ⟨(0), (by first | rfl | (simp; done) | (simp [*]; done)), H', ⟨Nat.le_refl _⟩, ⟨by repeat (first | (with_reducible first | exact HB.out | apply below_alloc | apply pw_below_drewN | apply below_drew1) | exact HB.out)⟩⟩
 case round =>
  clear H'
  obtain ⟨x3_1, rfl, HA, HK1, HB⟩ := hrel
  cases gk with
  | zero => exact absurd HA.out (by simp [gangwaylaw1_LebBack.l0])
  | succ k1 =>
   have H := HA.out
   clear HA
   simp only [gangwaylaw1_LebBack.l0] at H
   have HC2 := Aside0.mk H
   clear H
   go_upto_region 2 with (fail)
   go_cut [29] (fun v29 wc => ∃ (kq : Nat) (x29_1 : Bool), v29 = .bool x29_1 ∧ Aside0 (gangwaylaw1_LebBack.j1 kq l0 x3_1 x29_1 = some r) ∧ Aside0 (kq ≤ k1) ∧ Aside0 (Below w.heap.size w wc))
   case first =>
    have H := HC2.out
    clear HC2
    by_cases c3 : x3_1 < (l0.length : Int)
    ·rw [if_pos c3] at H
     have c3b0 : decide (x3_1 < (l0.length : Int)) = true := decide_eq_true c3
     clear c3
     (first | rw [c3b0] | (simp only [i64_w, i32_w]; rw [c3b0]) | skip)
     have H' := Aside0.mk H
     clear H
     go_wp2
     go_meet
     case rel => exact ⟨_, (decide (x3_1 < 30)), (by first | rfl | (simp; done) | (simp [*]; done)), H', ⟨by have := HK1.out; first | omega | exact Nat.le_refl _⟩, ⟨by repeat (first | (with_reducible first | exact HB.out | apply below_alloc | apply pw_below_drewN | apply below_drew1) | exact HB.out)⟩⟩
    ·rw [if_neg c3] at H
     have c3b0 : decide (x3_1 < (l0.length : Int)) = false := decide_eq_false c3
     clear c3
     (first | rw [c3b0] | (simp only [i64_w, i32_w]; rw [c3b0]) | skip)
     have H' := Aside0.mk H
     clear H
     go_wp2
     go_meet
     case rel => exact ⟨_, (false), (by first | rfl | (simp; done) | (simp [*]; done)), H', ⟨by have := HK1.out; first | omega | exact Nat.le_refl _⟩, ⟨by repeat (first | (with_reducible first | exact HB.out | apply below_alloc | apply pw_below_drewN | apply below_drew1) | exact HB.out)⟩⟩
   case rest =>
    as_aux_lemma =>
     clear HC2
     try clear p2
     try clear c3
     try clear c3b0
     obtain ⟨kq, x29_1, rfl, HA, HJ1, HB⟩ := hcut
     cases kq with
     | zero => exact absurd HA.out (by simp [gangwaylaw1_LebBack.j1])
     | succ kj1 =>
      have H := HA.out
      clear HA
      simp only [gangwaylaw1_LebBack.j1] at H
      by_cases c4 : x29_1 = true
      ·subst c4
       have H1 : (if 0 ≤ x3_1 then (if x3_1 < (l0.length : Int) then ((leb_PutUint.f kj1 ((rd_T26 l0 x3_1).f2)).bind fun t222 => ((gangwayref0_CopyBytes.f kj1 t222).bind fun t225 => (if t225.length + ((rd_T26 l0 x3_1).f0).length < 140737488355328 then ((leb_Uint.f kj1 (t225 ++ ((rd_T26 l0 x3_1).f0)) 64).bind fun bt231 => ((gangwaylaw1_num.f bt231.2.2).bind fun t234 => (if t234 = 0 then (if bt231.1 = ((rd_T26 l0 x3_1).f2) then (if bt231.2.1 = (t222.length : Int) then (if bt231.2.1 < 1 then (gangwaylaw1_LebBack.j2 kj1 l0 x3_1 t222 true ((rd_T26 l0 x3_1).f0) ((rd_T26 l0 x3_1).f1) ((rd_T26 l0 x3_1).f2) ((rd_T26 l0 x3_1).f3)) else (gangwaylaw1_LebBack.j2 kj1 l0 x3_1 t222 (decide (bt231.2.1 > 10)) ((rd_T26 l0 x3_1).f0) ((rd_T26 l0 x3_1).f1) ((rd_T26 l0 x3_1).f2) ((rd_T26 l0 x3_1).f3))) else (gangwaylaw1_LebBack.j2 kj1 l0 x3_1 t222 true ((rd_T26 l0 x3_1).f0) ((rd_T26 l0 x3_1).f1) ((rd_T26 l0 x3_1).f2) ((rd_T26 l0 x3_1).f3))) else (gangwaylaw1_LebBack.j2 kj1 l0 x3_1 t222 true ((rd_T26 l0 x3_1).f0) ((rd_T26 l0 x3_1).f1) ((rd_T26 l0 x3_1).f2) ((rd_T26 l0 x3_1).f3))) else (gangwaylaw1_LebBack.j2 kj1 l0 x3_1 t222 true ((rd_T26 l0 x3_1).f0) ((rd_T26 l0 x3_1).f1) ((rd_T26 l0 x3_1).f2) ((rd_T26 l0 x3_1).f3))))) else (none)))) else (none)) else (none)) = some r := by rw [if_pos rfl] at H; exact H
       clear H
       have H := H1
       clear H1
       by_cases c5 : 0 ≤ x3_1
       ·rw [if_pos c5] at H
        have c5b0 : decide (0 ≤ x3_1) = true := decide_eq_true c5
        clear c5
        by_cases c6 : x3_1 < (l0.length : Int)
        ·rw [if_pos c6] at H
         have c6b0 : decide (x3_1 < (l0.length : Int)) = true := decide_eq_true c6
         clear c6
         replace H := Option.bind_eq_some_iff.mp H
         obtain ⟨t222, A70, H⟩ := H
         replace H : ((gangwayref0_CopyBytes.f kj1 t222).bind fun t225 => (if t225.length + ((rd_T26 l0 x3_1).f0).length < 140737488355328 then ((leb_Uint.f kj1 (t225 ++ ((rd_T26 l0 x3_1).f0)) 64).bind fun bt231 => ((gangwaylaw1_num.f bt231.2.2).bind fun t234 => (if t234 = 0 then (if bt231.1 = ((rd_T26 l0 x3_1).f2) then (if bt231.2.1 = (t222.length : Int) then (if bt231.2.1 < 1 then (gangwaylaw1_LebBack.j2 kj1 l0 x3_1 t222 true ((rd_T26 l0 x3_1).f0) ((rd_T26 l0 x3_1).f1) ((rd_T26 l0 x3_1).f2) ((rd_T26 l0 x3_1).f3)) else (gangwaylaw1_LebBack.j2 kj1 l0 x3_1 t222 (decide (bt231.2.1 > 10)) ((rd_T26 l0 x3_1).f0) ((rd_T26 l0 x3_1).f1) ((rd_T26 l0 x3_1).f2) ((rd_T26 l0 x3_1).f3))) else (gangwaylaw1_LebBack.j2 kj1 l0 x3_1 t222 true ((rd_T26 l0 x3_1).f0) ((rd_T26 l0 x3_1).f1) ((rd_T26 l0 x3_1).f2) ((rd_T26 l0 x3_1).f3))) else (gangwaylaw1_LebBack.j2 kj1 l0 x3_1 t222 true ((rd_T26 l0 x3_1).f0) ((rd_T26 l0 x3_1).f1) ((rd_T26 l0 x3_1).f2) ((rd_T26 l0 x3_1).f3))) else (gangwaylaw1_LebBack.j2 kj1 l0 x3_1 t222 true ((rd_T26 l0 x3_1).f0) ((rd_T26 l0 x3_1).f1) ((rd_T26 l0 x3_1).f2) ((rd_T26 l0 x3_1).f3))))) else (none))) = some r := H
         have A7 := Aside0.mk A70
         clear A70
         replace H := Option.bind_eq_some_iff.mp H
         obtain ⟨t225, A80, H⟩ := H
         replace H : (if t225.length + ((rd_T26 l0 x3_1).f0).length < 140737488355328 then ((leb_Uint.f kj1 (t225 ++ ((rd_T26 l0 x3_1).f0)) 64).bind fun bt231 => ((gangwaylaw1_num.f bt231.2.2).bind fun t234 => (if t234 = 0 then (if bt231.1 = ((rd_T26 l0 x3_1).f2) then (if bt231.2.1 = (t222.length : Int) then (if bt231.2.1 < 1 then (gangwaylaw1_LebBack.j2 kj1 l0 x3_1 t222 true ((rd_T26 l0 x3_1).f0) ((rd_T26 l0 x3_1).f1) ((rd_T26 l0 x3_1).f2) ((rd_T26 l0 x3_1).f3)) else (gangwaylaw1_LebBack.j2 kj1 l0 x3_1 t222 (decide (bt231.2.1 > 10)) ((rd_T26 l0 x3_1).f0) ((rd_T26 l0 x3_1).f1) ((rd_T26 l0 x3_1).f2) ((rd_T26 l0 x3_1).f3))) else (gangwaylaw1_LebBack.j2 kj1 l0 x3_1 t222 true ((rd_T26 l0 x3_1).f0) ((rd_T26 l0 x3_1).f1) ((rd_T26 l0 x3_1).f2) ((rd_T26 l0 x3_1).f3))) else (gangwaylaw1_LebBack.j2 kj1 l0 x3_1 t222 true ((rd_T26 l0 x3_1).f0) ((rd_T26 l0 x3_1).f1) ((rd_T26 l0 x3_1).f2) ((rd_T26 l0 x3_1).f3))) else (gangwaylaw1_LebBack.j2 kj1 l0 x3_1 t222 true ((rd_T26 l0 x3_1).f0) ((rd_T26 l0 x3_1).f1) ((rd_T26 l0 x3_1).f2) ((rd_T26 l0 x3_1).f3))))) else (none)) = some r := H
         have A8 := Aside0.mk A80
         clear A80
         by_cases c9 : t225.length + ((rd_T26 l0 x3_1).f0).length < 140737488355328
         ·rw [if_pos c9] at H
          have LMc9 := Aside0.mk c9
          clear c9
          obtain ⟨y228, hy228⟩ : ∃ y_ : List Int, y_ = (t225 ++ ((rd_T26 l0 x3_1).f0)) := ⟨_, rfl⟩
          replace H : ((leb_Uint.f kj1 y228 64).bind fun bt231 => ((gangwaylaw1_num.f bt231.2.2).bind fun t234 => (if t234 = 0 then (if bt231.1 = ((rd_T26 l0 x3_1).f2) then (if bt231.2.1 = (t222.length : Int) then (if bt231.2.1 < 1 then (gangwaylaw1_LebBack.j2 kj1 l0 x3_1 t222 true ((rd_T26 l0 x3_1).f0) ((rd_T26 l0 x3_1).f1) ((rd_T26 l0 x3_1).f2) ((rd_T26 l0 x3_1).f3)) else (gangwaylaw1_LebBack.j2 kj1 l0 x3_1 t222 (decide (bt231.2.1 > 10)) ((rd_T26 l0 x3_1).f0) ((rd_T26 l0 x3_1).f1) ((rd_T26 l0 x3_1).f2) ((rd_T26 l0 x3_1).f3))) else (gangwaylaw1_LebBack.j2 kj1 l0 x3_1 t222 true ((rd_T26 l0 x3_1).f0) ((rd_T26 l0 x3_1).f1) ((rd_T26 l0 x3_1).f2) ((rd_T26 l0 x3_1).f3))) else (gangwaylaw1_LebBack.j2 kj1 l0 x3_1 t222 true ((rd_T26 l0 x3_1).f0) ((rd_T26 l0 x3_1).f1) ((rd_T26 l0 x3_1).f2) ((rd_T26 l0 x3_1).f3))) else (gangwaylaw1_LebBack.j2 kj1 l0 x3_1 t222 true ((rd_T26 l0 x3_1).f0) ((rd_T26 l0 x3_1).f1) ((rd_T26 l0 x3_1).f2) ((rd_T26 l0 x3_1).f3))))) = some r := by first | (rw [hy228]; with_reducible exact H) | (have H2_ := (Option.bind_some _ _).symm.trans H; rw [hy228]; with_reducible exact H2_) | (have H2_ := (Option.bind_some _ _).symm.trans H; with_reducible exact H2_) | with_reducible exact H | (rw [hy228]; exact H) | exact H
          have Ny228 := Aside0.mk hy228
          clear hy228
          replace H := Option.bind_eq_some_iff.mp H
          obtain ⟨⟨t231, t232, t233⟩, A100, H⟩ := H
          replace H : ((gangwaylaw1_num.f t233).bind fun t234 => (if t234 = 0 then (if t231 = ((rd_T26 l0 x3_1).f2) then (if t232 = (t222.length : Int) then (if t232 < 1 then (gangwaylaw1_LebBack.j2 kj1 l0 x3_1 t222 true ((rd_T26 l0 x3_1).f0) ((rd_T26 l0 x3_1).f1) ((rd_T26 l0 x3_1).f2) ((rd_T26 l0 x3_1).f3)) else (gangwaylaw1_LebBack.j2 kj1 l0 x3_1 t222 (decide (t232 > 10)) ((rd_T26 l0 x3_1).f0) ((rd_T26 l0 x3_1).f1) ((rd_T26 l0 x3_1).f2) ((rd_T26 l0 x3_1).f3))) else (gangwaylaw1_LebBack.j2 kj1 l0 x3_1 t222 true ((rd_T26 l0 x3_1).f0) ((rd_T26 l0 x3_1).f1) ((rd_T26 l0 x3_1).f2) ((rd_T26 l0 x3_1).f3))) else (gangwaylaw1_LebBack.j2 kj1 l0 x3_1 t222 true ((rd_T26 l0 x3_1).f0) ((rd_T26 l0 x3_1).f1) ((rd_T26 l0 x3_1).f2) ((rd_T26 l0 x3_1).f3))) else (gangwaylaw1_LebBack.j2 kj1 l0 x3_1 t222 true ((rd_T26 l0 x3_1).f0) ((rd_T26 l0 x3_1).f1) ((rd_T26 l0 x3_1).f2) ((rd_T26 l0 x3_1).f3)))) = some r := H
          have A10 := Aside0.mk A100
          clear A100
          have HC11 := Aside0.mk H
          clear H
          have p220 : 0 ≤ (x3_1 : Int) := of_decide_eq_true (by first | (with_reducible assumption) | assumption)
          have q220 : x3_1 < (l0.length : Int) := of_decide_eq_true (by first | (with_reducible assumption) | assumption)
          obtain ⟨ad220, A220_0, c220_0, e220, hx220_0, hx220_1, hx220_2, hx220_3, hl220_0, hi220_0⟩ := at_T26 HR0.out x3_1 p220 q220
          cases e220
          replace hx220_0 := up HB hx220_0
          replace hx220_1 := up HB hx220_1
          replace hx220_2 := up HB hx220_2
          replace hx220_3 := up HB hx220_3
          have HR220_0 := Aside0.mk hi220_0
          have HC220_0 := Aside0.mk hl220_0
          clear hi220_0 hl220_0
          replace p220 := eq_true p220
          replace q220 := eq_true q220
          try go_wp2_with (first | ((with_reducible refine gate_dst (N := 4) rfl ?_); (try (refine gate_guard (by rfl) ?_; dsimp only)); refine box_event ?hg (N := 4) ?hd (cs := #[.slice none 0 0, .int .i64 0, .int .u64 0, .int .i64 0]) (t := 26) ?hr ?_; (case hd => rfl); (case hg => rfl); (case hr => first | (go_simp; done) | (go_simp; rfl)); intro gb221 hg w12 hbox hb; have n0_ := Aside0.mk (below_step (by repeat (first | (with_reducible first | exact HB.out | apply below_alloc | apply pw_below_drewN | apply below_drew1) | exact HB.out)) hb); have n1_ := Aside0.mk (hbox); have n2_ := Aside0.mk ((by rw [hg]; exact (below_size (by repeat (first | (with_reducible first | exact HB.out | apply below_alloc | apply pw_below_drewN | apply below_drew1) | exact HB.out))) : w.heap.size ≤ gb221)); have n3_ := Aside0.mk ((by rw [hg]; exact (below_size (by repeat (first | (with_reducible first | exact HB.out | apply below_alloc | apply pw_below_drewN | apply below_drew1) | exact HB.out))) : w.heap.size ≤ gb221)); clear HB; have HB := n0_; have BK221 := n1_; have GW221 := n2_; have GE221 := n3_; clear n0_ n1_ n2_ n3_; clear hb hbox hg; have hcz13_0 : w12.cell? ⟨gb221, 0, none⟩ = some (.slice none 0 0) := (blk_cell BK221.out 0).trans rfl; have hcz13_1 : w12.cell? ⟨gb221, 1, none⟩ = some (.int .i64 0) := (blk_cell BK221.out 1).trans rfl; have hcz13_2 : w12.cell? ⟨gb221, 2, none⟩ = some (.int .u64 0) := (blk_cell BK221.out 2).trans rfl; have hcz13_3 : w12.cell? ⟨gb221, 3, none⟩ = some (.int .i64 0) := (blk_cell BK221.out 3).trans rfl; have hfz13_0 := blk_frozen BK221.out 0; have hfz13_1 := blk_frozen BK221.out 1; have hfz13_2 := blk_frozen BK221.out 2; have hfz13_3 := blk_frozen BK221.out 3) | ((with_reducible refine gate_callee (f := 14) rfl ?_); refine goesL_ (some 38) rfl rfl Try.func14 (by kernel_rfl) rfl #[.int .u64 ((rd_T26 l0 x3_1).f2)] rfl (by (try simp only [List.map_toArray, List.map_cons, List.map_nil]); first | done | rfl | (simp only [List.length_drop, List.length_take]; rfl)) ?_; (with_reducible refine (leb_PutUint.calls kj1 ((rd_T26 l0 x3_1).f2) t222 _ A7.out).mono ?_); rintro e w14 ⟨v223, rfl, ho0, hb⟩; refine ⟨_, rfl, ?_⟩; have n0_ := Aside0.mk (Kd.R_lower ho0 (below_size (by repeat (first | (with_reducible first | exact HB.out | apply below_alloc | apply pw_below_drewN | apply below_drew1 | refine below_set ?_ GE221.out) | exact HB.out)))); have n1_ := Aside0.mk (blk_below (g := gb221) (o := .cells #[.slice A220_0 ((rd_T26 l0 x3_1).f0).length c220_0, .int .i64 ((rd_T26 l0 x3_1).f1), .int .u64 ((rd_T26 l0 x3_1).f2), .int .i64 ((rd_T26 l0 x3_1).f3)] 26 (0, 0)) (by (with_reducible repeat (first | refine blk_drewN ?_ _ | refine blk_drew ?_ | refine blk_alloc ?_ _)); refine blk_put (cs := #[.slice A220_0 ((rd_T26 l0 x3_1).f0).length c220_0, .int .i64 ((rd_T26 l0 x3_1).f1), .int .u64 ((rd_T26 l0 x3_1).f2), .int .i64 0]) ?_ 3 _ rfl; (with_reducible repeat (first | refine blk_drewN ?_ _ | refine blk_drew ?_ | refine blk_alloc ?_ _)); refine blk_put (cs := #[.slice A220_0 ((rd_T26 l0 x3_1).f0).length c220_0, .int .i64 ((rd_T26 l0 x3_1).f1), .int .u64 0, .int .i64 0]) ?_ 2 _ rfl; (with_reducible repeat (first | refine blk_drewN ?_ _ | refine blk_drew ?_ | refine blk_alloc ?_ _)); refine blk_put (cs := #[.slice A220_0 ((rd_T26 l0 x3_1).f0).length c220_0, .int .i64 0, .int .u64 0, .int .i64 0]) ?_ 1 _ rfl; (with_reducible repeat (first | refine blk_drewN ?_ _ | refine blk_drew ?_ | refine blk_alloc ?_ _)); refine blk_put (cs := #[.slice none 0 0, .int .i64 0, .int .u64 0, .int .i64 0]) ?_ 0 _ rfl; (with_reducible repeat (first | refine blk_drewN ?_ _ | refine blk_drew ?_ | refine blk_alloc ?_ _)); exact BK221.out) hb); have n2_ := Aside0.mk (below_step (by repeat (first | (with_reducible first | exact HB.out | apply below_alloc | apply pw_below_drewN | apply below_drew1 | refine below_set ?_ GE221.out) | exact HB.out)) hb); clear BK221; clear HB; have HO224 := n0_; have BK221 := n1_; have HB := n2_; clear n0_ n1_ n2_; (try clear hb); (try clear hb2); (try clear hk); (try clear hi); (try clear ho0)))
          have n0_ := Aside0.mk (Kd.R_drew HO224.out)
          have n1_ := Aside0.mk (blk_drew BK221.out)
          have n2_ := Aside0.mk (below_drew1 HB.out)
          clear HO224
          clear BK221
          clear HB
          have HO224 := n0_
          have BK221 := n1_
          have HB := n2_
          clear n0_ n1_ n2_
          obtain ⟨Ao16, co16, eo16⟩ := Kd.R_slice HO224.out
          (first | subst eo16 | (injection eo16 with f1_ f2_ f3_; have f4_ := f1_.symm; have f5_ := f3_.symm; clear f1_ f2_ f3_; subst f4_; subst f5_))
          refine start_ (n := 13) (S := fun w' => w'.cell? ⟨gb221, 0, none⟩ = some (.slice A220_0 ((rd_T26 l0 x3_1).f0).length c220_0) ∧ w'.cell? ⟨gb221, 1, none⟩ = some (.int .i64 ((rd_T26 l0 x3_1).f1)) ∧ w'.cell? ⟨gb221, 2, none⟩ = some (.int .u64 ((rd_T26 l0 x3_1).f2)) ∧ w'.cell? ⟨gb221, 3, none⟩ = some (.int .i64 ((rd_T26 l0 x3_1).f3))) (ds := []) #[false, false, false, false, false, false, false, false, false, false, false, false, false] (by kernel_rfl) rfl rfl ⟨(blk_cell BK221.out 0).trans rfl, (blk_cell BK221.out 1).trans rfl, (blk_cell BK221.out 2).trans rfl, (blk_cell BK221.out 3).trans rfl⟩ (fun hHeld => ?_); refine with_tabW gangwaylaw1_LebBack.tab6 gangwaylaw1_LebBack.bits6 (fun HT_ HW_ => ?_)
          generalize w14.drew = w15 at HO224 BK221 HB hHeld ⊢
          refine pure_ (i := 0) (N := some 40) (v := ?_) (a' := ?_) #[true, false, false, false, false, false, false, false, false, false, false, false, false] rfl rfl (any_of HT_.out (by kernel_rfl)) (fun _ _ _ h => h) (Or.inl ⟨by rfl, ?_⟩) ?_ ?_
          rotate_left; · intro w'; go_simp; with_reducible rfl
          rotate_left; · simp only [Act.put, List.setIfInBounds_toArray, List.set_cons_zero, List.set_cons_succ, i64_w, i32_w]; rfl
          refine pure_ (i := 2) (N := some 42) (v := ?_) (a' := ?_) #[true, false, true, false, false, false, false, false, false, false, false, false, false] rfl rfl (any_of HT_.out (by kernel_rfl)) (fun _ _ _ h => h) (Or.inl ⟨by rfl, ?_⟩) ?_ ?_
          rotate_left; · intro w'; go_simp; with_reducible rfl
          rotate_left; · simp only [Act.put, List.setIfInBounds_toArray, List.set_cons_zero, List.set_cons_succ, i64_w, i32_w]; rfl
          refine take_ (i := 3) (N := some 43) (v := ?_) (a' := ?_) #[true, false, true, true, false, false, false, false, false, false, false, false, false] rfl rfl (take_ofW HT_.out HW_.out (by kernel_rfl)) (fun _ _ _ h => h) (Or.inl ⟨by rfl, ?_⟩) hHeld ?_ ?_
          rotate_left; · rintro w' ⟨s0, s1, s2, s3⟩; go_simp; with_reducible rfl
          rotate_left; · simp only [Act.put, List.setIfInBounds_toArray, List.set_cons_zero, List.set_cons_succ, i64_w, i32_w]; rfl
          refine one_ (i := 1) (N := some 41) #[true, true, true, true, false, false, false, false, false, false, false, false, false] rfl rfl (one_of HT_.out (by kernel_rfl)) (by decide) (fun K hK => ?_)
          refine goes_ Try.func20 (by kernel_rfl) rfl #[.slice Ao16 t222.length co16] (by rfl) rfl rfl (by (try simp only [List.map_toArray, List.map_cons, List.map_nil]); first | done | rfl | (simp only [List.length_drop, List.length_take]; rfl)) ?_
          with_reducible refine (gangwayref0_CopyBytes.calls kj1 _ _ t222 t225 _ ?side1 ?side2 A8.out).mono ?_
          (case side1 => repeat (first | exact (Kd.R_reads' HO224.out).2.2 | (with_reducible refine Kd.C_alloc ?_ _) | (with_reducible refine Kd.C_drewN ?_ _) | (with_reducible refine Kd.C_drew ?_)))
          (case side2 => exact (Kd.R_reads' HO224.out).2.1)
          rintro e w17 ⟨v226, rfl, ho0, hb⟩
          refine ⟨_, rfl, ?_⟩
          have n0_ := Aside0.mk (Kd.R_elder' (by (with_reducible repeat (first | apply Kd.R_alloc | apply Kd.R_drewN | apply Kd.R_drew)); exact HO224.out) (Kd.R_base ho0) hb)
          have n1_ := Aside0.mk (Kd.R_lower (Kd.R_new' ho0 (Kd.R_lt (by (with_reducible repeat (first | apply Kd.R_alloc | apply Kd.R_drewN | apply Kd.R_drew)); exact HO224.out))) (below_size (by repeat (first | (with_reducible first | exact HB.out | apply below_alloc | apply pw_below_drewN | apply below_drew1 | refine below_set ?_ GE221.out) | exact HB.out))))
          have n2_ := Aside0.mk (blk_below (g := gb221) (o := .cells #[.slice A220_0 ((rd_T26 l0 x3_1).f0).length c220_0, .int .i64 ((rd_T26 l0 x3_1).f1), .int .u64 ((rd_T26 l0 x3_1).f2), .int .i64 ((rd_T26 l0 x3_1).f3)] 26 (0, 0)) (by (with_reducible repeat (first | refine blk_drewN ?_ _ | refine blk_drew ?_ | refine blk_alloc ?_ _)); exact BK221.out) hb)
          have n3_ := Aside0.mk (below_step (by repeat (first | (with_reducible first | exact HB.out | apply below_alloc | apply pw_below_drewN | apply below_drew1 | refine below_set ?_ GE221.out) | exact HB.out)) hb)
          clear HO224
          clear BK221
          clear HB
          have HO224 := n0_
          have HO227 := n1_
          have BK221 := n2_
          have HB := n3_
          clear n0_ n1_ n2_ n3_
          (try clear hb)
          (try clear hb2)
          (try clear hk)
          (try clear hi)
          (try clear ho0)
          refine hK.out _ _ ⟨(blk_cell BK221.out 0).trans rfl, (blk_cell BK221.out 1).trans rfl, (blk_cell BK221.out 2).trans rfl, (blk_cell BK221.out 3).trans rfl⟩ (fun hHeld => ?_)
          clear hK K
          refine norm_ (a' := ?_) ?_ ?_
          rotate_left
          ·show Act.put _ (some 41) _ = _
           simp only [Act.put, List.setIfInBounds_toArray, List.set_cons_zero, List.set_cons_succ, i64_w, i32_w]
           rfl
          refine one_ (i := 4) (N := some 44) #[true, true, true, true, true, false, false, false, false, false, false, false, false] rfl rfl (one_of HT_.out (by kernel_rfl)) (by decide) (fun K hK => ?_)
          refine Kd.R_append_rows_step (Kd.int .u8) (w0 := w) w.heap.size (by rfl) (.tmp 41) (.tmp 43) 23 5 (.int .u8 0) 1 rfl Try.underlying23 info5 rfl (by decide) (by omega) v226 t225 ((rd_T26 l0 x3_1).f0) _ _ _ (fun k_ => some k_ ≠ (.slice Ao16 t222.length co16 : Value).ownBlock) (fun _ => False) rfl rfl ?aO ?aR (fun _ _ h => h) (fun _ h => h.elim) ?aF ?aB ?aS ?aL ?_
          (case aR => repeat (first | exact (Kd.C_below HR220_0.out HB.out) | (with_reducible refine Kd.C_alloc ?_ _) | (with_reducible refine Kd.C_drewN ?_ _) | (with_reducible refine Kd.C_drew ?_)))
          (case aB => exact (by repeat (first | (with_reducible first | exact HB.out | apply below_alloc | apply pw_below_drewN | apply below_drew1 | refine below_set ?_ GE221.out) | exact HB.out)))
          (case aF => exact (fun k_ hk => Kd.fresh' (Kd.R_lt (by (with_reducible repeat (first | apply Kd.R_alloc | apply Kd.R_drewN | apply Kd.R_drew)); exact HO224.out)) k_ hk))
          (case aO => exact (by (with_reducible repeat (first | apply Kd.R_alloc | apply Kd.R_drewN | apply Kd.R_drew)); exact Kd.R_mono HO227.out (fun _ hk => hk.2)))
          (case aS => exact (below_size (by repeat (first | (with_reducible first | exact HB.out | apply below_alloc | apply pw_below_drewN | apply below_drew1 | refine below_set ?_ GE221.out) | exact HB.out))))
          (case aL => have := LMc9.out; omega)
          intro v229 w18 ho hb hg hat
          rw [← Ny228.out] at ho
          have n0_ := Aside0.mk (blk_grown (g := gb221) (o := .cells #[.slice A220_0 ((rd_T26 l0 x3_1).f0).length c220_0, .int .i64 ((rd_T26 l0 x3_1).f1), .int .u64 ((rd_T26 l0 x3_1).f2), .int .i64 ((rd_T26 l0 x3_1).f3)] 26 (0, 0)) (by (with_reducible repeat (first | refine blk_drewN ?_ _ | refine blk_drew ?_ | refine blk_alloc ?_ _)); exact BK221.out) hg (Kd.R_ne HO227.out BK221.out (by decide)))
          have n1_ := Aside0.mk (Kd.R_after (ok := (fun _ => True)) (by (with_reducible repeat (first | apply Kd.R_alloc | apply Kd.R_drewN | apply Kd.R_drew)); exact HO224.out) hg hat)
          have n2_ := Aside0.mk (hb)
          have n3_ := Aside0.mk (ho)
          clear BK221
          clear HO224
          clear HB
          clear HO227
          have BK221 := n0_
          have HO224 := n1_
          have HB := n2_
          have HO230 := n3_
          clear n0_ n1_ n2_ n3_
          clear ho hb hg hat
          obtain ⟨Ao19, co19, eo19⟩ := Kd.R_slice HO230.out
          (first | subst eo19 | (injection eo19 with f1_ f2_ f3_; have f4_ := f1_.symm; have f5_ := f3_.symm; clear f1_ f2_ f3_; subst f4_; subst f5_))
          refine hK.out _ _ ⟨(blk_cell BK221.out 0).trans rfl, (blk_cell BK221.out 1).trans rfl, (blk_cell BK221.out 2).trans rfl, (blk_cell BK221.out 3).trans rfl⟩ (fun hHeld => ?_)
          clear hK K
          refine norm_ (a' := ?_) ?_ ?_
          rotate_left
          ·show Act.put _ (some 44) _ = _
           simp only [Act.put, List.setIfInBounds_toArray, List.set_cons_zero, List.set_cons_succ, i64_w, i32_w]
           rfl
          refine one_ (i := 5) (N := some 45) #[true, true, true, true, true, true, false, false, false, false, false, false, false] rfl rfl (one_of HT_.out (by kernel_rfl)) (by decide) (fun K hK => ?_)
          refine goes_ Try.func9 (by kernel_rfl) rfl #[.slice Ao19 y228.length co19, .int .i64 64] (by rfl) rfl rfl (by (try simp only [List.map_toArray, List.map_cons, List.map_nil]); first | done | rfl | (simp only [List.length_drop, List.length_take]; rfl)) ?_
          with_reducible refine (leb_Uint.calls kj1 _ _ y228 64 t231 t232 t233 _ ?side1 ?side2 A10.out).mono ?_
          (case side1 => repeat (first | exact (Kd.R_reads' HO230.out).2.2 | (with_reducible refine Kd.C_alloc ?_ _) | (with_reducible refine Kd.C_drewN ?_ _) | (with_reducible refine Kd.C_drew ?_)))
          (case side2 => exact (Kd.R_reads' HO230.out).2.1)
          rintro e w20 ⟨rfl, hb⟩
          refine ⟨_, rfl, ?_⟩
          have n0_ := Aside0.mk (Kd.R_below (by (with_reducible repeat (first | apply Kd.R_alloc | apply Kd.R_drewN | apply Kd.R_drew)); exact HO224.out) hb)
          have n1_ := Aside0.mk (Kd.R_below (by (with_reducible repeat (first | apply Kd.R_alloc | apply Kd.R_drewN | apply Kd.R_drew)); exact HO230.out) hb)
          have n2_ := Aside0.mk (blk_below (g := gb221) (o := .cells #[.slice A220_0 ((rd_T26 l0 x3_1).f0).length c220_0, .int .i64 ((rd_T26 l0 x3_1).f1), .int .u64 ((rd_T26 l0 x3_1).f2), .int .i64 ((rd_T26 l0 x3_1).f3)] 26 (0, 0)) (by (with_reducible repeat (first | refine blk_drewN ?_ _ | refine blk_drew ?_ | refine blk_alloc ?_ _)); exact BK221.out) hb)
          have n3_ := Aside0.mk (below_step (by repeat (first | (with_reducible first | exact HB.out | apply below_alloc | apply pw_below_drewN | apply below_drew1 | refine below_set ?_ GE221.out) | exact HB.out)) hb)
          clear HO224
          clear HO230
          clear BK221
          clear HB
          have HO224 := n0_
          have HO230 := n1_
          have BK221 := n2_
          have HB := n3_
          clear n0_ n1_ n2_ n3_
          (try clear hb)
          (try clear hb2)
          (try clear hk)
          (try clear hi)
          refine hK.out _ _ ⟨(blk_cell BK221.out 0).trans rfl, (blk_cell BK221.out 1).trans rfl, (blk_cell BK221.out 2).trans rfl, (blk_cell BK221.out 3).trans rfl⟩ (fun hHeld => ?_)
          clear hK K
          refine norm_ (a' := ?_) ?_ ?_
          rotate_left
          ·show Act.put _ (some 45) _ = _
           simp only [Act.put, List.setIfInBounds_toArray, List.set_cons_zero, List.set_cons_succ, i64_w, i32_w]
           rfl
          refine pure_ (i := 6) (N := some 39) (v := ?_) (a' := ?_) #[true, true, true, true, true, true, true, false, false, false, false, false, false] rfl rfl (any_of HT_.out (by kernel_rfl)) (fun _ _ _ h => h) (Or.inl ⟨by rfl, ?_⟩) ?_ ?_
          rotate_left; · intro w'; go_simp; with_reducible rfl
          rotate_left; · simp only [Act.put, List.setIfInBounds_toArray, List.set_cons_zero, List.set_cons_succ, i64_w, i32_w]; rfl
          refine pure_ (i := 7) (N := some 46) (v := ?_) (a' := ?_) #[true, true, true, true, true, true, true, true, false, false, false, false, false] rfl rfl (any_of HT_.out (by kernel_rfl)) (fun _ _ _ h => h) (Or.inl ⟨by rfl, ?_⟩) ?_ ?_
          rotate_left; · intro w'; go_simp; with_reducible rfl
          rotate_left; · simp only [Act.put, List.setIfInBounds_toArray, List.set_cons_zero, List.set_cons_succ, i64_w, i32_w]; rfl
          refine pure_ (i := 8) (N := some 47) (v := ?_) (a' := ?_) #[true, true, true, true, true, true, true, true, true, false, false, false, false] rfl rfl (any_of HT_.out (by kernel_rfl)) (fun _ _ _ h => h) (Or.inl ⟨by rfl, ?_⟩) ?_ ?_
          rotate_left; · intro w'; go_simp; with_reducible rfl
          rotate_left; · simp only [Act.put, List.setIfInBounds_toArray, List.set_cons_zero, List.set_cons_succ, i64_w, i32_w]; rfl
          refine pure_ (i := 9) (N := some 48) (v := ?_) (a' := ?_) #[true, true, true, true, true, true, true, true, true, true, false, false, false] rfl rfl (any_of HT_.out (by kernel_rfl)) (fun _ _ _ h => h) (Or.inl ⟨by rfl, ?_⟩) ?_ ?_
          rotate_left; · intro w'; go_simp; with_reducible rfl
          rotate_left; · simp only [Act.put, List.setIfInBounds_toArray, List.set_cons_zero, List.set_cons_succ, i64_w, i32_w]; rfl
          refine pure_ (i := 10) (N := some 6) (v := ?_) (a' := ?_) #[true, true, true, true, true, true, true, true, true, true, true, false, false] rfl rfl (any_of HT_.out (by kernel_rfl)) (fun _ _ _ h => h) (Or.inl ⟨by rfl, ?_⟩) ?_ ?_
          rotate_left; · intro w'; go_simp; with_reducible rfl
          rotate_left; · simp only [Act.put, List.setIfInBounds_toArray, List.set_cons_zero, List.set_cons_succ, i64_w, i32_w]; rfl
          refine pure_ (i := 11) (N := some 7) (v := ?_) (a' := ?_) #[true, true, true, true, true, true, true, true, true, true, true, true, false] rfl rfl (any_of HT_.out (by kernel_rfl)) (fun _ _ _ h => h) (Or.inl ⟨by rfl, ?_⟩) ?_ ?_
          rotate_left; · intro w'; go_simp; with_reducible rfl
          rotate_left; · simp only [Act.put, List.setIfInBounds_toArray, List.set_cons_zero, List.set_cons_succ, i64_w, i32_w]; rfl
          refine pure_ (i := 12) (N := some 8) (v := ?_) (a' := ?_) #[true, true, true, true, true, true, true, true, true, true, true, true, true] rfl rfl (any_of HT_.out (by kernel_rfl)) (fun _ _ _ h => h) (Or.inl ⟨by rfl, ?_⟩) ?_ ?_
          rotate_left; · intro w'; go_simp; with_reducible rfl
          rotate_left; · simp only [Act.put, List.setIfInBounds_toArray, List.set_cons_zero, List.set_cons_succ, i64_w, i32_w]; rfl
          refine done_ (done_of HT_.out (by kernel_rfl)) ?_
          go_upto_region 7 with (fail)
          go_cut [71] (fun v71 wc => ∃ (kq : Nat) (x71_10 : Bool), v71 = .bool x71_10 ∧ Aside0 (gangwaylaw1_LebBack.j2 kq l0 x3_1 t222 x71_10 ((rd_T26 l0 x3_1).f0) ((rd_T26 l0 x3_1).f1) ((rd_T26 l0 x3_1).f2) ((rd_T26 l0 x3_1).f3) = some r) ∧ Aside0 (kq ≤ kj1) ∧ Aside0 (Kd.R (Kd.int .u8) 5 wc w.heap.size (fun _ => True) (.slice Ao16 t222.length co16) t222) ∧ Aside0 (wc.heap[gb221]? = some (.cells #[(.slice A220_0 ((rd_T26 l0 x3_1).f0).length c220_0), .int .i64 ((rd_T26 l0 x3_1).f1), .int .u64 ((rd_T26 l0 x3_1).f2), .int .i64 ((rd_T26 l0 x3_1).f3)] 26 (0, 0))) ∧ Aside0 (Below w.heap.size w wc))
          case first =>
           have H := HC11.out
           clear HC11
           replace H := Option.bind_eq_some_iff.mp H
           obtain ⟨t234, A210, H⟩ := H
           replace H : (if t234 = 0 then (if t231 = ((rd_T26 l0 x3_1).f2) then (if t232 = (t222.length : Int) then (if t232 < 1 then (gangwaylaw1_LebBack.j2 kj1 l0 x3_1 t222 true ((rd_T26 l0 x3_1).f0) ((rd_T26 l0 x3_1).f1) ((rd_T26 l0 x3_1).f2) ((rd_T26 l0 x3_1).f3)) else (gangwaylaw1_LebBack.j2 kj1 l0 x3_1 t222 (decide (t232 > 10)) ((rd_T26 l0 x3_1).f0) ((rd_T26 l0 x3_1).f1) ((rd_T26 l0 x3_1).f2) ((rd_T26 l0 x3_1).f3))) else (gangwaylaw1_LebBack.j2 kj1 l0 x3_1 t222 true ((rd_T26 l0 x3_1).f0) ((rd_T26 l0 x3_1).f1) ((rd_T26 l0 x3_1).f2) ((rd_T26 l0 x3_1).f3))) else (gangwaylaw1_LebBack.j2 kj1 l0 x3_1 t222 true ((rd_T26 l0 x3_1).f0) ((rd_T26 l0 x3_1).f1) ((rd_T26 l0 x3_1).f2) ((rd_T26 l0 x3_1).f3))) else (gangwaylaw1_LebBack.j2 kj1 l0 x3_1 t222 true ((rd_T26 l0 x3_1).f0) ((rd_T26 l0 x3_1).f1) ((rd_T26 l0 x3_1).f2) ((rd_T26 l0 x3_1).f3))) = some r := H
           have A21 := Aside0.mk A210
           clear A210
           by_cases c22 : t234 = 0
           ·rw [if_pos c22] at H
            have c22b0 : (t234 == 0) = true := beq_iff_eq.mpr c22
            have c22b1 : (t234 != 0) = false := bne_eq_false_iff_eq.mpr c22
            clear c22
            (first | rw [c22b0] | (simp only [i64_w, i32_w]; rw [c22b0]) | skip)
            by_cases c23 : t231 = ((rd_T26 l0 x3_1).f2)
            ·rw [if_pos c23] at H
             have c23b0 : (t231 == ((rd_T26 l0 x3_1).f2)) = true := beq_iff_eq.mpr c23
             have c23b1 : (t231 != ((rd_T26 l0 x3_1).f2)) = false := bne_eq_false_iff_eq.mpr c23
             clear c23
             by_cases c24 : t232 = (t222.length : Int)
             ·rw [if_pos c24] at H
              have c24b0 : (t232 == (t222.length : Int)) = true := beq_iff_eq.mpr c24
              have c24b1 : (t232 != (t222.length : Int)) = false := bne_eq_false_iff_eq.mpr c24
              clear c24
              by_cases c25 : t232 < 1
              ·rw [if_pos c25] at H
               have c25b0 : decide (t232 < 1) = true := decide_eq_true c25
               clear c25
               have H' := Aside0.mk H
               clear H
               go_wp2_with (first | ((with_reducible refine gate_callee (f := 11) rfl ?_); refine goesL_ (some 50) rfl rfl Try.func11 (by kernel_rfl) rfl #[.int .i64 t233] rfl (by (try simp only [List.map_toArray, List.map_cons, List.map_nil]); first | done | rfl | (simp only [List.length_drop, List.length_take]; rfl)) ?_; (with_reducible refine (gangwaylaw1_num.calls t233 t234 _ A21.out).mono ?_); rintro e w' ⟨rfl, ⟨nd, rfl⟩⟩; refine ⟨_, rfl, ?_⟩; have hcz26_0 : w20.cell? ⟨gb221, 0, none⟩ = some (.slice A220_0 ((rd_T26 l0 x3_1).f0).length c220_0) := (blk_cell BK221.out 0).trans rfl; have hcz26_1 : w20.cell? ⟨gb221, 1, none⟩ = some (.int .i64 ((rd_T26 l0 x3_1).f1)) := (blk_cell BK221.out 1).trans rfl; have hcz26_2 : w20.cell? ⟨gb221, 2, none⟩ = some (.int .u64 ((rd_T26 l0 x3_1).f2)) := (blk_cell BK221.out 2).trans rfl; have hcz26_3 : w20.cell? ⟨gb221, 3, none⟩ = some (.int .i64 ((rd_T26 l0 x3_1).f3)) := (blk_cell BK221.out 3).trans rfl; have hfz26_0 := blk_frozen BK221.out 0; have hfz26_1 := blk_frozen BK221.out 1; have hfz26_2 := blk_frozen BK221.out 2; have hfz26_3 := blk_frozen BK221.out 3))
               go_meet
               case rel => exact ⟨_, (true), (by first | rfl | (simp; done) | (simp [*]; done)), H', ⟨by have := HK1.out; have := HJ1.out; first | omega | exact Nat.le_refl _⟩, ⟨by (with_reducible repeat (first | apply Kd.R_alloc | apply Kd.R_drewN | apply Kd.R_drew)); exact Kd.R_mono HO224.out (fun _ hk => trivial)⟩, ⟨by (with_reducible repeat (first | refine blk_drewN ?_ _ | refine blk_drew ?_ | refine blk_alloc ?_ _)); exact BK221.out⟩, ⟨by repeat (first | (with_reducible first | exact HB.out | apply below_alloc | apply pw_below_drewN | apply below_drew1 | refine below_set ?_ GE221.out) | exact HB.out)⟩⟩
              ·rw [if_neg c25] at H
               have c25b0 : decide (t232 < 1) = false := decide_eq_false c25
               clear c25
               have H' := Aside0.mk H
               clear H
               go_wp2_with (first | ((with_reducible refine gate_callee (f := 11) rfl ?_); refine goesL_ (some 50) rfl rfl Try.func11 (by kernel_rfl) rfl #[.int .i64 t233] rfl (by (try simp only [List.map_toArray, List.map_cons, List.map_nil]); first | done | rfl | (simp only [List.length_drop, List.length_take]; rfl)) ?_; (with_reducible refine (gangwaylaw1_num.calls t233 t234 _ A21.out).mono ?_); rintro e w' ⟨rfl, ⟨nd, rfl⟩⟩; refine ⟨_, rfl, ?_⟩; have hcz27_0 : w20.cell? ⟨gb221, 0, none⟩ = some (.slice A220_0 ((rd_T26 l0 x3_1).f0).length c220_0) := (blk_cell BK221.out 0).trans rfl; have hcz27_1 : w20.cell? ⟨gb221, 1, none⟩ = some (.int .i64 ((rd_T26 l0 x3_1).f1)) := (blk_cell BK221.out 1).trans rfl; have hcz27_2 : w20.cell? ⟨gb221, 2, none⟩ = some (.int .u64 ((rd_T26 l0 x3_1).f2)) := (blk_cell BK221.out 2).trans rfl; have hcz27_3 : w20.cell? ⟨gb221, 3, none⟩ = some (.int .i64 ((rd_T26 l0 x3_1).f3)) := (blk_cell BK221.out 3).trans rfl; have hfz27_0 := blk_frozen BK221.out 0; have hfz27_1 := blk_frozen BK221.out 1; have hfz27_2 := blk_frozen BK221.out 2; have hfz27_3 := blk_frozen BK221.out 3))
               go_meet
               case rel => exact ⟨_, (decide (t232 > 10)), (by first | rfl | (simp; done) | (simp [*]; done)), H', ⟨by have := HK1.out; have := HJ1.out; first | omega | exact Nat.le_refl _⟩, ⟨by (with_reducible repeat (first | apply Kd.R_alloc | apply Kd.R_drewN | apply Kd.R_drew)); exact Kd.R_mono HO224.out (fun _ hk => trivial)⟩, ⟨by (with_reducible repeat (first | refine blk_drewN ?_ _ | refine blk_drew ?_ | refine blk_alloc ?_ _)); exact BK221.out⟩, ⟨by repeat (first | (with_reducible first | exact HB.out | apply below_alloc | apply pw_below_drewN | apply below_drew1 | refine below_set ?_ GE221.out) | exact HB.out)⟩⟩
             ·rw [if_neg c24] at H
              have c24b0 : (t232 == (t222.length : Int)) = false := beq_eq_false_iff_ne.mpr c24
              have c24b1 : (t232 != (t222.length : Int)) = true := bne_iff_ne.mpr c24
              have H' := Aside0.mk H
              clear H
              go_wp2_with (first | ((with_reducible refine gate_callee (f := 11) rfl ?_); refine goesL_ (some 50) rfl rfl Try.func11 (by kernel_rfl) rfl #[.int .i64 t233] rfl (by (try simp only [List.map_toArray, List.map_cons, List.map_nil]); first | done | rfl | (simp only [List.length_drop, List.length_take]; rfl)) ?_; (with_reducible refine (gangwaylaw1_num.calls t233 t234 _ A21.out).mono ?_); rintro e w' ⟨rfl, ⟨nd, rfl⟩⟩; refine ⟨_, rfl, ?_⟩; have hcz28_0 : w20.cell? ⟨gb221, 0, none⟩ = some (.slice A220_0 ((rd_T26 l0 x3_1).f0).length c220_0) := (blk_cell BK221.out 0).trans rfl; have hcz28_1 : w20.cell? ⟨gb221, 1, none⟩ = some (.int .i64 ((rd_T26 l0 x3_1).f1)) := (blk_cell BK221.out 1).trans rfl; have hcz28_2 : w20.cell? ⟨gb221, 2, none⟩ = some (.int .u64 ((rd_T26 l0 x3_1).f2)) := (blk_cell BK221.out 2).trans rfl; have hcz28_3 : w20.cell? ⟨gb221, 3, none⟩ = some (.int .i64 ((rd_T26 l0 x3_1).f3)) := (blk_cell BK221.out 3).trans rfl; have hfz28_0 := blk_frozen BK221.out 0; have hfz28_1 := blk_frozen BK221.out 1; have hfz28_2 := blk_frozen BK221.out 2; have hfz28_3 := blk_frozen BK221.out 3))
              go_meet
              case rel => exact ⟨_, (true), (by first | rfl | (simp; done) | (simp [*]; done)), H', ⟨by have := HK1.out; have := HJ1.out; first | omega | exact Nat.le_refl _⟩, ⟨by (with_reducible repeat (first | apply Kd.R_alloc | apply Kd.R_drewN | apply Kd.R_drew)); exact Kd.R_mono HO224.out (fun _ hk => trivial)⟩, ⟨by (with_reducible repeat (first | refine blk_drewN ?_ _ | refine blk_drew ?_ | refine blk_alloc ?_ _)); exact BK221.out⟩, ⟨by repeat (first | (with_reducible first | exact HB.out | apply below_alloc | apply pw_below_drewN | apply below_drew1 | refine below_set ?_ GE221.out) | exact HB.out)⟩⟩
            ·rw [if_neg c23] at H
             have c23b0 : (t231 == ((rd_T26 l0 x3_1).f2)) = false := beq_eq_false_iff_ne.mpr c23
             have c23b1 : (t231 != ((rd_T26 l0 x3_1).f2)) = true := bne_iff_ne.mpr c23
             have H' := Aside0.mk H
             clear H
             go_wp2_with (first | ((with_reducible refine gate_callee (f := 11) rfl ?_); refine goesL_ (some 50) rfl rfl Try.func11 (by kernel_rfl) rfl #[.int .i64 t233] rfl (by (try simp only [List.map_toArray, List.map_cons, List.map_nil]); first | done | rfl | (simp only [List.length_drop, List.length_take]; rfl)) ?_; (with_reducible refine (gangwaylaw1_num.calls t233 t234 _ A21.out).mono ?_); rintro e w' ⟨rfl, ⟨nd, rfl⟩⟩; refine ⟨_, rfl, ?_⟩; have hcz29_0 : w20.cell? ⟨gb221, 0, none⟩ = some (.slice A220_0 ((rd_T26 l0 x3_1).f0).length c220_0) := (blk_cell BK221.out 0).trans rfl; have hcz29_1 : w20.cell? ⟨gb221, 1, none⟩ = some (.int .i64 ((rd_T26 l0 x3_1).f1)) := (blk_cell BK221.out 1).trans rfl; have hcz29_2 : w20.cell? ⟨gb221, 2, none⟩ = some (.int .u64 ((rd_T26 l0 x3_1).f2)) := (blk_cell BK221.out 2).trans rfl; have hcz29_3 : w20.cell? ⟨gb221, 3, none⟩ = some (.int .i64 ((rd_T26 l0 x3_1).f3)) := (blk_cell BK221.out 3).trans rfl; have hfz29_0 := blk_frozen BK221.out 0; have hfz29_1 := blk_frozen BK221.out 1; have hfz29_2 := blk_frozen BK221.out 2; have hfz29_3 := blk_frozen BK221.out 3))
             go_meet
             case rel => exact ⟨_, (true), (by first | rfl | (simp; done) | (simp [*]; done)), H', ⟨by have := HK1.out; have := HJ1.out; first | omega | exact Nat.le_refl _⟩, ⟨by (with_reducible repeat (first | apply Kd.R_alloc | apply Kd.R_drewN | apply Kd.R_drew)); exact Kd.R_mono HO224.out (fun _ hk => trivial)⟩, ⟨by (with_reducible repeat (first | refine blk_drewN ?_ _ | refine blk_drew ?_ | refine blk_alloc ?_ _)); exact BK221.out⟩, ⟨by repeat (first | (with_reducible first | exact HB.out | apply below_alloc | apply pw_below_drewN | apply below_drew1 | refine below_set ?_ GE221.out) | exact HB.out)⟩⟩
           ·rw [if_neg c22] at H
            have c22b0 : (t234 == 0) = false := beq_eq_false_iff_ne.mpr c22
            have c22b1 : (t234 != 0) = true := bne_iff_ne.mpr c22
            (first | rw [c22b0] | (simp only [i64_w, i32_w]; rw [c22b0]) | skip)
            have H' := Aside0.mk H
            clear H
            go_wp2_with (first | ((with_reducible refine gate_callee (f := 11) rfl ?_); refine goesL_ (some 50) rfl rfl Try.func11 (by kernel_rfl) rfl #[.int .i64 t233] rfl (by (try simp only [List.map_toArray, List.map_cons, List.map_nil]); first | done | rfl | (simp only [List.length_drop, List.length_take]; rfl)) ?_; (with_reducible refine (gangwaylaw1_num.calls t233 t234 _ A21.out).mono ?_); rintro e w' ⟨rfl, ⟨nd, rfl⟩⟩; refine ⟨_, rfl, ?_⟩))
            go_meet
            case rel => exact ⟨_, (true), (by first | rfl | (simp; done) | (simp [*]; done)), H', ⟨by have := HK1.out; have := HJ1.out; first | omega | exact Nat.le_refl _⟩, ⟨by (with_reducible repeat (first | apply Kd.R_alloc | apply Kd.R_drewN | apply Kd.R_drew)); exact Kd.R_mono HO224.out (fun _ hk => trivial)⟩, ⟨by (with_reducible repeat (first | refine blk_drewN ?_ _ | refine blk_drew ?_ | refine blk_alloc ?_ _)); exact BK221.out⟩, ⟨by repeat (first | (with_reducible first | exact HB.out | apply below_alloc | apply pw_below_drewN | apply below_drew1 | refine below_set ?_ GE221.out) | exact HB.out)⟩⟩
          case rest =>
           as_aux_lemma =>
            clear HC11
            try clear c1
            try clear c2
            try clear p2
            try clear q2
            try clear hx2
            try clear c3
            try clear c3b0
            try clear c4
            try clear c5
            try clear c5b0
            try clear c6
            try clear c6b0
            try clear c9
            try clear c11
            try clear c14
            try clear c20
            try clear c22
            try clear c22b0
            try clear c22b1
            try clear p22
            try clear q22
            try clear hx22
            try clear c23
            try clear c23b0
            try clear c23b1
            try clear c24
            try clear c24b0
            try clear c24b1
            try clear c25
            try clear c25b0
            try clear hcz13_0
            try clear hcz13_1
            try clear hcz13_2
            try clear hcz13_3
            try clear hcz26_0
            try clear hcz26_1
            try clear hcz26_2
            try clear hcz26_3
            try clear hcz27_0
            try clear hcz27_1
            try clear hcz27_2
            try clear hcz27_3
            try clear hcz28_0
            try clear hcz28_1
            try clear hcz28_2
            try clear hcz28_3
            try clear hcz29_0
            try clear hcz29_1
            try clear hcz29_2
            try clear hcz29_3
            try clear hfz13_0
            try clear hfz13_1
            try clear hfz13_2
            try clear hfz13_3
            try clear hfz26_0
            try clear hfz26_1
            try clear hfz26_2
            try clear hfz26_3
            try clear hfz27_0
            try clear hfz27_1
            try clear hfz27_2
            try clear hfz27_3
            try clear hfz28_0
            try clear hfz28_1
            try clear hfz28_2
            try clear hfz28_3
            try clear hfz29_0
            try clear hfz29_1
            try clear hfz29_2
            try clear hfz29_3
            try clear hx220_0
            try clear hx220_1
            try clear hx220_2
            try clear hx220_3
            try clear p2
            try clear p220
            try clear q220
            obtain ⟨kq, x71_10, rfl, HA, HJ10, HO_5, BK221, HB⟩ := hcut
            cases kq with
            | zero => exact absurd HA.out (by simp [gangwaylaw1_LebBack.j2])
            | succ kj10 =>
             have H := HA.out
             clear HA
             simp only [gangwaylaw1_LebBack.j2] at H
             by_cases c30 : x71_10 = true
             ·subst c30
              have H1 : (some false) = some r := by rw [if_pos rfl] at H; exact H
              clear H
              have H := H1
              clear H1
              obtain rfl := Option.some.inj H
              go_wp2
              go_ret
              exact ⟨by first | rfl | (simp [errW_none, errW_some] <;> rfl) | (simp [*, errW_none, errW_some] <;> rfl), by repeat (first | (with_reducible first | exact HB.out | apply below_alloc | apply pw_below_drewN | apply below_drew1 | refine below_set ?_ GE221.out) | exact HB.out)⟩
             ·replace c30 := Bool.eq_false_iff.mpr c30
              subst c30
              have H1 : ((leb_PutSint.f kj10 ((rd_T26 l0 x3_1).f3)).bind fun t235 => ((gangwayref0_CopyBytes.f kj10 t235).bind fun t238 => (if t238.length + ((rd_T26 l0 x3_1).f0).length < 140737488355328 then ((leb_Sint.f kj10 (t238 ++ ((rd_T26 l0 x3_1).f0)) 64).bind fun bt244 => ((gangwaylaw1_num.f bt244.2.2).bind fun t247 => (if t247 = 0 then (if bt244.1 = ((rd_T26 l0 x3_1).f3) then (if bt244.2.1 = (t235.length : Int) then (if bt244.2.1 < 1 then (gangwaylaw1_LebBack.j3 kj10 l0 x3_1 t222 t235 true ((rd_T26 l0 x3_1).f0) ((rd_T26 l0 x3_1).f1) ((rd_T26 l0 x3_1).f2) ((rd_T26 l0 x3_1).f3)) else (gangwaylaw1_LebBack.j3 kj10 l0 x3_1 t222 t235 (decide (bt244.2.1 > 10)) ((rd_T26 l0 x3_1).f0) ((rd_T26 l0 x3_1).f1) ((rd_T26 l0 x3_1).f2) ((rd_T26 l0 x3_1).f3))) else (gangwaylaw1_LebBack.j3 kj10 l0 x3_1 t222 t235 true ((rd_T26 l0 x3_1).f0) ((rd_T26 l0 x3_1).f1) ((rd_T26 l0 x3_1).f2) ((rd_T26 l0 x3_1).f3))) else (gangwaylaw1_LebBack.j3 kj10 l0 x3_1 t222 t235 true ((rd_T26 l0 x3_1).f0) ((rd_T26 l0 x3_1).f1) ((rd_T26 l0 x3_1).f2) ((rd_T26 l0 x3_1).f3))) else (gangwaylaw1_LebBack.j3 kj10 l0 x3_1 t222 t235 true ((rd_T26 l0 x3_1).f0) ((rd_T26 l0 x3_1).f1) ((rd_T26 l0 x3_1).f2) ((rd_T26 l0 x3_1).f3))))) else (none)))) = some r := by rw [if_neg (show ¬ (false = true) by decide)] at H; exact H
              clear H
              have H := H1
              clear H1
              replace H := Option.bind_eq_some_iff.mp H
              obtain ⟨t235, A310, H⟩ := H
              replace H : ((gangwayref0_CopyBytes.f kj10 t235).bind fun t238 => (if t238.length + ((rd_T26 l0 x3_1).f0).length < 140737488355328 then ((leb_Sint.f kj10 (t238 ++ ((rd_T26 l0 x3_1).f0)) 64).bind fun bt244 => ((gangwaylaw1_num.f bt244.2.2).bind fun t247 => (if t247 = 0 then (if bt244.1 = ((rd_T26 l0 x3_1).f3) then (if bt244.2.1 = (t235.length : Int) then (if bt244.2.1 < 1 then (gangwaylaw1_LebBack.j3 kj10 l0 x3_1 t222 t235 true ((rd_T26 l0 x3_1).f0) ((rd_T26 l0 x3_1).f1) ((rd_T26 l0 x3_1).f2) ((rd_T26 l0 x3_1).f3)) else (gangwaylaw1_LebBack.j3 kj10 l0 x3_1 t222 t235 (decide (bt244.2.1 > 10)) ((rd_T26 l0 x3_1).f0) ((rd_T26 l0 x3_1).f1) ((rd_T26 l0 x3_1).f2) ((rd_T26 l0 x3_1).f3))) else (gangwaylaw1_LebBack.j3 kj10 l0 x3_1 t222 t235 true ((rd_T26 l0 x3_1).f0) ((rd_T26 l0 x3_1).f1) ((rd_T26 l0 x3_1).f2) ((rd_T26 l0 x3_1).f3))) else (gangwaylaw1_LebBack.j3 kj10 l0 x3_1 t222 t235 true ((rd_T26 l0 x3_1).f0) ((rd_T26 l0 x3_1).f1) ((rd_T26 l0 x3_1).f2) ((rd_T26 l0 x3_1).f3))) else (gangwaylaw1_LebBack.j3 kj10 l0 x3_1 t222 t235 true ((rd_T26 l0 x3_1).f0) ((rd_T26 l0 x3_1).f1) ((rd_T26 l0 x3_1).f2) ((rd_T26 l0 x3_1).f3))))) else (none))) = some r := H
              have A31 := Aside0.mk A310
              clear A310
              replace H := Option.bind_eq_some_iff.mp H
              obtain ⟨t238, A320, H⟩ := H
              replace H : (if t238.length + ((rd_T26 l0 x3_1).f0).length < 140737488355328 then ((leb_Sint.f kj10 (t238 ++ ((rd_T26 l0 x3_1).f0)) 64).bind fun bt244 => ((gangwaylaw1_num.f bt244.2.2).bind fun t247 => (if t247 = 0 then (if bt244.1 = ((rd_T26 l0 x3_1).f3) then (if bt244.2.1 = (t235.length : Int) then (if bt244.2.1 < 1 then (gangwaylaw1_LebBack.j3 kj10 l0 x3_1 t222 t235 true ((rd_T26 l0 x3_1).f0) ((rd_T26 l0 x3_1).f1) ((rd_T26 l0 x3_1).f2) ((rd_T26 l0 x3_1).f3)) else (gangwaylaw1_LebBack.j3 kj10 l0 x3_1 t222 t235 (decide (bt244.2.1 > 10)) ((rd_T26 l0 x3_1).f0) ((rd_T26 l0 x3_1).f1) ((rd_T26 l0 x3_1).f2) ((rd_T26 l0 x3_1).f3))) else (gangwaylaw1_LebBack.j3 kj10 l0 x3_1 t222 t235 true ((rd_T26 l0 x3_1).f0) ((rd_T26 l0 x3_1).f1) ((rd_T26 l0 x3_1).f2) ((rd_T26 l0 x3_1).f3))) else (gangwaylaw1_LebBack.j3 kj10 l0 x3_1 t222 t235 true ((rd_T26 l0 x3_1).f0) ((rd_T26 l0 x3_1).f1) ((rd_T26 l0 x3_1).f2) ((rd_T26 l0 x3_1).f3))) else (gangwaylaw1_LebBack.j3 kj10 l0 x3_1 t222 t235 true ((rd_T26 l0 x3_1).f0) ((rd_T26 l0 x3_1).f1) ((rd_T26 l0 x3_1).f2) ((rd_T26 l0 x3_1).f3))))) else (none)) = some r := H
              have A32 := Aside0.mk A320
              clear A320
              by_cases c33 : t238.length + ((rd_T26 l0 x3_1).f0).length < 140737488355328
              ·rw [if_pos c33] at H
               have LMc33 := Aside0.mk c33
               clear c33
               obtain ⟨y241, hy241⟩ : ∃ y_ : List Int, y_ = (t238 ++ ((rd_T26 l0 x3_1).f0)) := ⟨_, rfl⟩
               replace H : ((leb_Sint.f kj10 y241 64).bind fun bt244 => ((gangwaylaw1_num.f bt244.2.2).bind fun t247 => (if t247 = 0 then (if bt244.1 = ((rd_T26 l0 x3_1).f3) then (if bt244.2.1 = (t235.length : Int) then (if bt244.2.1 < 1 then (gangwaylaw1_LebBack.j3 kj10 l0 x3_1 t222 t235 true ((rd_T26 l0 x3_1).f0) ((rd_T26 l0 x3_1).f1) ((rd_T26 l0 x3_1).f2) ((rd_T26 l0 x3_1).f3)) else (gangwaylaw1_LebBack.j3 kj10 l0 x3_1 t222 t235 (decide (bt244.2.1 > 10)) ((rd_T26 l0 x3_1).f0) ((rd_T26 l0 x3_1).f1) ((rd_T26 l0 x3_1).f2) ((rd_T26 l0 x3_1).f3))) else (gangwaylaw1_LebBack.j3 kj10 l0 x3_1 t222 t235 true ((rd_T26 l0 x3_1).f0) ((rd_T26 l0 x3_1).f1) ((rd_T26 l0 x3_1).f2) ((rd_T26 l0 x3_1).f3))) else (gangwaylaw1_LebBack.j3 kj10 l0 x3_1 t222 t235 true ((rd_T26 l0 x3_1).f0) ((rd_T26 l0 x3_1).f1) ((rd_T26 l0 x3_1).f2) ((rd_T26 l0 x3_1).f3))) else (gangwaylaw1_LebBack.j3 kj10 l0 x3_1 t222 t235 true ((rd_T26 l0 x3_1).f0) ((rd_T26 l0 x3_1).f1) ((rd_T26 l0 x3_1).f2) ((rd_T26 l0 x3_1).f3))))) = some r := by first | (rw [hy241]; with_reducible exact H) | (have H2_ := (Option.bind_some _ _).symm.trans H; rw [hy241]; with_reducible exact H2_) | (have H2_ := (Option.bind_some _ _).symm.trans H; with_reducible exact H2_) | with_reducible exact H | (rw [hy241]; exact H) | exact H
               have Ny241 := Aside0.mk hy241
               clear hy241
               replace H := Option.bind_eq_some_iff.mp H
               obtain ⟨⟨t244, t245, t246⟩, A340, H⟩ := H
               replace H : ((gangwaylaw1_num.f t246).bind fun t247 => (if t247 = 0 then (if t244 = ((rd_T26 l0 x3_1).f3) then (if t245 = (t235.length : Int) then (if t245 < 1 then (gangwaylaw1_LebBack.j3 kj10 l0 x3_1 t222 t235 true ((rd_T26 l0 x3_1).f0) ((rd_T26 l0 x3_1).f1) ((rd_T26 l0 x3_1).f2) ((rd_T26 l0 x3_1).f3)) else (gangwaylaw1_LebBack.j3 kj10 l0 x3_1 t222 t235 (decide (t245 > 10)) ((rd_T26 l0 x3_1).f0) ((rd_T26 l0 x3_1).f1) ((rd_T26 l0 x3_1).f2) ((rd_T26 l0 x3_1).f3))) else (gangwaylaw1_LebBack.j3 kj10 l0 x3_1 t222 t235 true ((rd_T26 l0 x3_1).f0) ((rd_T26 l0 x3_1).f1) ((rd_T26 l0 x3_1).f2) ((rd_T26 l0 x3_1).f3))) else (gangwaylaw1_LebBack.j3 kj10 l0 x3_1 t222 t235 true ((rd_T26 l0 x3_1).f0) ((rd_T26 l0 x3_1).f1) ((rd_T26 l0 x3_1).f2) ((rd_T26 l0 x3_1).f3))) else (gangwaylaw1_LebBack.j3 kj10 l0 x3_1 t222 t235 true ((rd_T26 l0 x3_1).f0) ((rd_T26 l0 x3_1).f1) ((rd_T26 l0 x3_1).f2) ((rd_T26 l0 x3_1).f3)))) = some r := H
               have A34 := Aside0.mk A340
               clear A340
               have HC35 := Aside0.mk H
               clear H
               have hcz36_0 : wc.cell? ⟨gb221, 0, none⟩ = some (.slice A220_0 ((rd_T26 l0 x3_1).f0).length c220_0) := (blk_cell BK221.out 0).trans rfl
               have hcz36_1 : wc.cell? ⟨gb221, 1, none⟩ = some (.int .i64 ((rd_T26 l0 x3_1).f1)) := (blk_cell BK221.out 1).trans rfl
               have hcz36_2 : wc.cell? ⟨gb221, 2, none⟩ = some (.int .u64 ((rd_T26 l0 x3_1).f2)) := (blk_cell BK221.out 2).trans rfl
               have hcz36_3 : wc.cell? ⟨gb221, 3, none⟩ = some (.int .i64 ((rd_T26 l0 x3_1).f3)) := (blk_cell BK221.out 3).trans rfl
               have hfz36_0 := blk_frozen BK221.out 0
               have hfz36_1 := blk_frozen BK221.out 1
               have hfz36_2 := blk_frozen BK221.out 2
               have hfz36_3 := blk_frozen BK221.out 3
               try go_wp2_with (first | ((with_reducible refine gate_callee (f := 16) rfl ?_); refine goesL_ (some 74) rfl rfl Try.func16 (by kernel_rfl) rfl #[.int .i64 ((rd_T26 l0 x3_1).f3)] rfl (by (try simp only [List.map_toArray, List.map_cons, List.map_nil]); first | done | rfl | (simp only [List.length_drop, List.length_take]; rfl)) ?_; (with_reducible refine (leb_PutSint.calls kj10 ((rd_T26 l0 x3_1).f3) t235 _ A31.out).mono ?_); rintro e w37 ⟨v236, rfl, ho0, hb⟩; refine ⟨_, rfl, ?_⟩; have n0_ := Aside0.mk (Kd.R_elder' (by (with_reducible repeat (first | apply Kd.R_alloc | apply Kd.R_drewN | apply Kd.R_drew)); exact HO_5.out) (Kd.R_base ho0) hb); have n1_ := Aside0.mk (Kd.R_lower (Kd.R_new' ho0 (Kd.R_lt (by (with_reducible repeat (first | apply Kd.R_alloc | apply Kd.R_drewN | apply Kd.R_drew)); exact HO_5.out))) (below_size (by repeat (first | (with_reducible first | exact HB.out | apply below_alloc | apply pw_below_drewN | apply below_drew1 | refine below_set ?_ GE221.out) | exact HB.out)))); have n2_ := Aside0.mk (blk_below (g := gb221) (o := .cells #[.slice A220_0 ((rd_T26 l0 x3_1).f0).length c220_0, .int .i64 ((rd_T26 l0 x3_1).f1), .int .u64 ((rd_T26 l0 x3_1).f2), .int .i64 ((rd_T26 l0 x3_1).f3)] 26 (0, 0)) (by (with_reducible repeat (first | refine blk_drewN ?_ _ | refine blk_drew ?_ | refine blk_alloc ?_ _)); exact BK221.out) hb); have n3_ := Aside0.mk (below_step (by repeat (first | (with_reducible first | exact HB.out | apply below_alloc | apply pw_below_drewN | apply below_drew1 | refine below_set ?_ GE221.out) | exact HB.out)) hb); clear HO_5; clear BK221; clear HB; have HO_5 := n0_; have HO237 := n1_; have BK221 := n2_; have HB := n3_; clear n0_ n1_ n2_ n3_; (try clear hb); (try clear hb2); (try clear hk); (try clear hi); (try clear ho0)))
               have n0_ := Aside0.mk (Kd.R_drew HO_5.out)
               have n1_ := Aside0.mk (Kd.R_drew HO237.out)
               have n2_ := Aside0.mk (blk_drew BK221.out)
               have n3_ := Aside0.mk (below_drew1 HB.out)
               clear HO_5
               clear HO237
               clear BK221
               clear HB
               have HO_5 := n0_
               have HO237 := n1_
               have BK221 := n2_
               have HB := n3_
               clear n0_ n1_ n2_ n3_
               obtain ⟨Ao39, co39, eo39⟩ := Kd.R_slice HO237.out
               (first | subst eo39 | (injection eo39 with f1_ f2_ f3_; have f4_ := f1_.symm; have f5_ := f3_.symm; clear f1_ f2_ f3_; subst f4_; subst f5_))
               refine start_ (n := 13) (S := fun w' => w'.cell? ⟨gb221, 0, none⟩ = some (.slice A220_0 ((rd_T26 l0 x3_1).f0).length c220_0) ∧ w'.cell? ⟨gb221, 1, none⟩ = some (.int .i64 ((rd_T26 l0 x3_1).f1)) ∧ w'.cell? ⟨gb221, 2, none⟩ = some (.int .u64 ((rd_T26 l0 x3_1).f2)) ∧ w'.cell? ⟨gb221, 3, none⟩ = some (.int .i64 ((rd_T26 l0 x3_1).f3))) (ds := []) #[false, false, false, false, false, false, false, false, false, false, false, false, false] (by kernel_rfl) rfl rfl ⟨(blk_cell BK221.out 0).trans rfl, (blk_cell BK221.out 1).trans rfl, (blk_cell BK221.out 2).trans rfl, (blk_cell BK221.out 3).trans rfl⟩ (fun hHeld => ?_); refine with_tabW gangwaylaw1_LebBack.tab10 gangwaylaw1_LebBack.bits10 (fun HT_ HW_ => ?_)
               generalize w37.drew = w38 at HO_5 HO237 BK221 HB hHeld ⊢
               refine pure_ (i := 0) (N := some 76) (v := ?_) (a' := ?_) #[true, false, false, false, false, false, false, false, false, false, false, false, false] rfl rfl (any_of HT_.out (by kernel_rfl)) (fun _ _ _ h => h) (Or.inl ⟨by rfl, ?_⟩) ?_ ?_
               rotate_left; · intro w'; go_simp; with_reducible rfl
               rotate_left; · simp only [Act.put, List.setIfInBounds_toArray, List.set_cons_zero, List.set_cons_succ, i64_w, i32_w]; rfl
               refine pure_ (i := 2) (N := some 78) (v := ?_) (a' := ?_) #[true, false, true, false, false, false, false, false, false, false, false, false, false] rfl rfl (any_of HT_.out (by kernel_rfl)) (fun _ _ _ h => h) (Or.inl ⟨by rfl, ?_⟩) ?_ ?_
               rotate_left; · intro w'; go_simp; with_reducible rfl
               rotate_left; · simp only [Act.put, List.setIfInBounds_toArray, List.set_cons_zero, List.set_cons_succ, i64_w, i32_w]; rfl
               refine take_ (i := 3) (N := some 79) (v := ?_) (a' := ?_) #[true, false, true, true, false, false, false, false, false, false, false, false, false] rfl rfl (take_ofW HT_.out HW_.out (by kernel_rfl)) (fun _ _ _ h => h) (Or.inl ⟨by rfl, ?_⟩) hHeld ?_ ?_
               rotate_left; · rintro w' ⟨s0, s1, s2, s3⟩; go_simp; with_reducible rfl
               rotate_left; · simp only [Act.put, List.setIfInBounds_toArray, List.set_cons_zero, List.set_cons_succ, i64_w, i32_w]; rfl
               refine one_ (i := 1) (N := some 77) #[true, true, true, true, false, false, false, false, false, false, false, false, false] rfl rfl (one_of HT_.out (by kernel_rfl)) (by decide) (fun K hK => ?_)
               refine goes_ Try.func20 (by kernel_rfl) rfl #[.slice Ao39 t235.length co39] (by rfl) rfl rfl (by (try simp only [List.map_toArray, List.map_cons, List.map_nil]); first | done | rfl | (simp only [List.length_drop, List.length_take]; rfl)) ?_
               with_reducible refine (gangwayref0_CopyBytes.calls kj10 _ _ t235 t238 _ ?side1 ?side2 A32.out).mono ?_
               (case side1 => repeat (first | exact (Kd.R_reads' HO237.out).2.2 | (with_reducible refine Kd.C_alloc ?_ _) | (with_reducible refine Kd.C_drewN ?_ _) | (with_reducible refine Kd.C_drew ?_)))
               (case side2 => exact (Kd.R_reads' HO237.out).2.1)
               rintro e w40 ⟨v239, rfl, ho0, hb⟩
               refine ⟨_, rfl, ?_⟩
               have n0_ := Aside0.mk (Kd.R_elder' (by (with_reducible repeat (first | apply Kd.R_alloc | apply Kd.R_drewN | apply Kd.R_drew)); exact HO_5.out) (Kd.R_base ho0) hb)
               have n1_ := Aside0.mk (Kd.R_elder' (by (with_reducible repeat (first | apply Kd.R_alloc | apply Kd.R_drewN | apply Kd.R_drew)); exact HO237.out) (Kd.R_base ho0) hb)
               have n2_ := Aside0.mk (Kd.R_lower (Kd.R_new' (Kd.R_new' ho0 (Kd.R_lt (by (with_reducible repeat (first | apply Kd.R_alloc | apply Kd.R_drewN | apply Kd.R_drew)); exact HO_5.out))) (Kd.R_lt (by (with_reducible repeat (first | apply Kd.R_alloc | apply Kd.R_drewN | apply Kd.R_drew)); exact HO237.out))) (below_size (by repeat (first | (with_reducible first | exact HB.out | apply below_alloc | apply pw_below_drewN | apply below_drew1 | refine below_set ?_ GE221.out) | exact HB.out))))
               have n3_ := Aside0.mk (blk_below (g := gb221) (o := .cells #[.slice A220_0 ((rd_T26 l0 x3_1).f0).length c220_0, .int .i64 ((rd_T26 l0 x3_1).f1), .int .u64 ((rd_T26 l0 x3_1).f2), .int .i64 ((rd_T26 l0 x3_1).f3)] 26 (0, 0)) (by (with_reducible repeat (first | refine blk_drewN ?_ _ | refine blk_drew ?_ | refine blk_alloc ?_ _)); exact BK221.out) hb)
               have n4_ := Aside0.mk (below_step (by repeat (first | (with_reducible first | exact HB.out | apply below_alloc | apply pw_below_drewN | apply below_drew1 | refine below_set ?_ GE221.out) | exact HB.out)) hb)
               clear HO_5
               clear HO237
               clear BK221
               clear HB
               have HO_5 := n0_
               have HO237 := n1_
               have HO240 := n2_
               have BK221 := n3_
               have HB := n4_
               clear n0_ n1_ n2_ n3_ n4_
               (try clear hb)
               (try clear hb2)
               (try clear hk)
               (try clear hi)
               (try clear ho0)
               refine hK.out _ _ ⟨(blk_cell BK221.out 0).trans rfl, (blk_cell BK221.out 1).trans rfl, (blk_cell BK221.out 2).trans rfl, (blk_cell BK221.out 3).trans rfl⟩ (fun hHeld => ?_)
               clear hK K
               refine norm_ (a' := ?_) ?_ ?_
               rotate_left
               ·show Act.put _ (some 77) _ = _
                simp only [Act.put, List.setIfInBounds_toArray, List.set_cons_zero, List.set_cons_succ, i64_w, i32_w]
                rfl
               refine one_ (i := 4) (N := some 80) #[true, true, true, true, true, false, false, false, false, false, false, false, false] rfl rfl (one_of HT_.out (by kernel_rfl)) (by decide) (fun K hK => ?_)
               refine Kd.R_append_rows_step (Kd.int .u8) (w0 := w) w.heap.size (by rfl) (.tmp 77) (.tmp 79) 23 5 (.int .u8 0) 1 rfl Try.underlying23 info5 rfl (by decide) (by omega) v239 t238 ((rd_T26 l0 x3_1).f0) _ _ _ (fun k_ => some k_ ≠ (.slice Ao16 t222.length co16 : Value).ownBlock ∧ some k_ ≠ (.slice Ao39 t235.length co39 : Value).ownBlock) (fun _ => False) rfl rfl ?aO ?aR (fun _ _ h => h) (fun _ h => h.elim) ?aF ?aB ?aS ?aL ?_
               (case aR => repeat (first | exact (Kd.C_below HR220_0.out HB.out) | (with_reducible refine Kd.C_alloc ?_ _) | (with_reducible refine Kd.C_drewN ?_ _) | (with_reducible refine Kd.C_drew ?_)))
               (case aB => exact (by repeat (first | (with_reducible first | exact HB.out | apply below_alloc | apply pw_below_drewN | apply below_drew1 | refine below_set ?_ GE221.out) | exact HB.out)))
               (case aF => exact (fun k_ hk => ⟨Kd.fresh' (Kd.R_lt (by (with_reducible repeat (first | apply Kd.R_alloc | apply Kd.R_drewN | apply Kd.R_drew)); exact HO_5.out)) k_ hk, Kd.fresh' (Kd.R_lt (by (with_reducible repeat (first | apply Kd.R_alloc | apply Kd.R_drewN | apply Kd.R_drew)); exact HO237.out)) k_ hk⟩))
               (case aO => exact (by (with_reducible repeat (first | apply Kd.R_alloc | apply Kd.R_drewN | apply Kd.R_drew)); exact Kd.R_mono HO240.out (fun _ hk => ⟨hk.1.2, hk.2⟩)))
               (case aS => exact (below_size (by repeat (first | (with_reducible first | exact HB.out | apply below_alloc | apply pw_below_drewN | apply below_drew1 | refine below_set ?_ GE221.out) | exact HB.out))))
               (case aL => have := LMc33.out; omega)
               intro v242 w41 ho hb hg hat
               rw [← Ny241.out] at ho
               have n0_ := Aside0.mk (Kd.R_after (ok := (fun k_ => some k_ ≠ (.slice Ao39 t235.length co39 : Value).ownBlock)) (by (with_reducible repeat (first | apply Kd.R_alloc | apply Kd.R_drewN | apply Kd.R_drew)); exact Kd.R_mono HO_5.out (fun _ hk => ⟨hk.1.2, hk.2⟩)) hg hat)
               have n1_ := Aside0.mk (blk_grown (g := gb221) (o := .cells #[.slice A220_0 ((rd_T26 l0 x3_1).f0).length c220_0, .int .i64 ((rd_T26 l0 x3_1).f1), .int .u64 ((rd_T26 l0 x3_1).f2), .int .i64 ((rd_T26 l0 x3_1).f3)] 26 (0, 0)) (by (with_reducible repeat (first | refine blk_drewN ?_ _ | refine blk_drew ?_ | refine blk_alloc ?_ _)); exact BK221.out) hg (Kd.R_ne HO240.out BK221.out (by decide)))
               have n2_ := Aside0.mk (Kd.R_after (ok := (fun k_ => some k_ ≠ (.slice Ao16 t222.length co16 : Value).ownBlock)) (by (with_reducible repeat (first | apply Kd.R_alloc | apply Kd.R_drewN | apply Kd.R_drew)); exact Kd.R_mono HO237.out (fun _ hk => ⟨hk.1.2, hk.2⟩)) hg hat)
               have n3_ := Aside0.mk (hb)
               have n4_ := Aside0.mk (ho)
               clear HO_5
               clear BK221
               clear HO237
               clear HB
               clear HO240
               have HO_5 := n0_
               have BK221 := n1_
               have HO237 := n2_
               have HB := n3_
               have HO243 := n4_
               clear n0_ n1_ n2_ n3_ n4_
               clear ho hb hg hat
               obtain ⟨Ao42, co42, eo42⟩ := Kd.R_slice HO243.out
               (first | subst eo42 | (injection eo42 with f1_ f2_ f3_; have f4_ := f1_.symm; have f5_ := f3_.symm; clear f1_ f2_ f3_; subst f4_; subst f5_))
               refine hK.out _ _ ⟨(blk_cell BK221.out 0).trans rfl, (blk_cell BK221.out 1).trans rfl, (blk_cell BK221.out 2).trans rfl, (blk_cell BK221.out 3).trans rfl⟩ (fun hHeld => ?_)
               clear hK K
               refine norm_ (a' := ?_) ?_ ?_
               rotate_left
               ·show Act.put _ (some 80) _ = _
                simp only [Act.put, List.setIfInBounds_toArray, List.set_cons_zero, List.set_cons_succ, i64_w, i32_w]
                rfl
               refine one_ (i := 5) (N := some 81) #[true, true, true, true, true, true, false, false, false, false, false, false, false] rfl rfl (one_of HT_.out (by kernel_rfl)) (by decide) (fun K hK => ?_)
               refine goes_ Try.func18 (by kernel_rfl) rfl #[.slice Ao42 y241.length co42, .int .i64 64] (by rfl) rfl rfl (by (try simp only [List.map_toArray, List.map_cons, List.map_nil]); first | done | rfl | (simp only [List.length_drop, List.length_take]; rfl)) ?_
               with_reducible refine (leb_Sint.calls kj10 _ _ y241 64 t244 t245 t246 _ ?side1 ?side2 A34.out).mono ?_
               (case side1 => repeat (first | exact (Kd.R_reads' HO243.out).2.2 | (with_reducible refine Kd.C_alloc ?_ _) | (with_reducible refine Kd.C_drewN ?_ _) | (with_reducible refine Kd.C_drew ?_)))
               (case side2 => exact (Kd.R_reads' HO243.out).2.1)
               rintro e w43 ⟨rfl, hb⟩
               refine ⟨_, rfl, ?_⟩
               have n0_ := Aside0.mk (Kd.R_below (by (with_reducible repeat (first | apply Kd.R_alloc | apply Kd.R_drewN | apply Kd.R_drew)); exact HO_5.out) hb)
               have n1_ := Aside0.mk (Kd.R_below (by (with_reducible repeat (first | apply Kd.R_alloc | apply Kd.R_drewN | apply Kd.R_drew)); exact HO237.out) hb)
               have n2_ := Aside0.mk (Kd.R_below (by (with_reducible repeat (first | apply Kd.R_alloc | apply Kd.R_drewN | apply Kd.R_drew)); exact HO243.out) hb)
               have n3_ := Aside0.mk (blk_below (g := gb221) (o := .cells #[.slice A220_0 ((rd_T26 l0 x3_1).f0).length c220_0, .int .i64 ((rd_T26 l0 x3_1).f1), .int .u64 ((rd_T26 l0 x3_1).f2), .int .i64 ((rd_T26 l0 x3_1).f3)] 26 (0, 0)) (by (with_reducible repeat (first | refine blk_drewN ?_ _ | refine blk_drew ?_ | refine blk_alloc ?_ _)); exact BK221.out) hb)
               have n4_ := Aside0.mk (below_step (by repeat (first | (with_reducible first | exact HB.out | apply below_alloc | apply pw_below_drewN | apply below_drew1 | refine below_set ?_ GE221.out) | exact HB.out)) hb)
               clear HO_5
               clear HO237
               clear HO243
               clear BK221
               clear HB
               have HO_5 := n0_
               have HO237 := n1_
               have HO243 := n2_
               have BK221 := n3_
               have HB := n4_
               clear n0_ n1_ n2_ n3_ n4_
               (try clear hb)
               (try clear hb2)
               (try clear hk)
               (try clear hi)
               refine hK.out _ _ ⟨(blk_cell BK221.out 0).trans rfl, (blk_cell BK221.out 1).trans rfl, (blk_cell BK221.out 2).trans rfl, (blk_cell BK221.out 3).trans rfl⟩ (fun hHeld => ?_)
               clear hK K
               refine norm_ (a' := ?_) ?_ ?_
               rotate_left
               ·show Act.put _ (some 81) _ = _
                simp only [Act.put, List.setIfInBounds_toArray, List.set_cons_zero, List.set_cons_succ, i64_w, i32_w]
                rfl
               refine pure_ (i := 6) (N := some 75) (v := ?_) (a' := ?_) #[true, true, true, true, true, true, true, false, false, false, false, false, false] rfl rfl (any_of HT_.out (by kernel_rfl)) (fun _ _ _ h => h) (Or.inl ⟨by rfl, ?_⟩) ?_ ?_
               rotate_left; · intro w'; go_simp; with_reducible rfl
               rotate_left; · simp only [Act.put, List.setIfInBounds_toArray, List.set_cons_zero, List.set_cons_succ, i64_w, i32_w]; rfl
               refine pure_ (i := 7) (N := some 82) (v := ?_) (a' := ?_) #[true, true, true, true, true, true, true, true, false, false, false, false, false] rfl rfl (any_of HT_.out (by kernel_rfl)) (fun _ _ _ h => h) (Or.inl ⟨by rfl, ?_⟩) ?_ ?_
               rotate_left; · intro w'; go_simp; with_reducible rfl
               rotate_left; · simp only [Act.put, List.setIfInBounds_toArray, List.set_cons_zero, List.set_cons_succ, i64_w, i32_w]; rfl
               refine pure_ (i := 8) (N := some 83) (v := ?_) (a' := ?_) #[true, true, true, true, true, true, true, true, true, false, false, false, false] rfl rfl (any_of HT_.out (by kernel_rfl)) (fun _ _ _ h => h) (Or.inl ⟨by rfl, ?_⟩) ?_ ?_
               rotate_left; · intro w'; go_simp; with_reducible rfl
               rotate_left; · simp only [Act.put, List.setIfInBounds_toArray, List.set_cons_zero, List.set_cons_succ, i64_w, i32_w]; rfl
               refine pure_ (i := 9) (N := some 84) (v := ?_) (a' := ?_) #[true, true, true, true, true, true, true, true, true, true, false, false, false] rfl rfl (any_of HT_.out (by kernel_rfl)) (fun _ _ _ h => h) (Or.inl ⟨by rfl, ?_⟩) ?_ ?_
               rotate_left; · intro w'; go_simp; with_reducible rfl
               rotate_left; · simp only [Act.put, List.setIfInBounds_toArray, List.set_cons_zero, List.set_cons_succ, i64_w, i32_w]; rfl
               refine pure_ (i := 10) (N := some 10) (v := ?_) (a' := ?_) #[true, true, true, true, true, true, true, true, true, true, true, false, false] rfl rfl (any_of HT_.out (by kernel_rfl)) (fun _ _ _ h => h) (Or.inl ⟨by rfl, ?_⟩) ?_ ?_
               rotate_left; · intro w'; go_simp; with_reducible rfl
               rotate_left; · simp only [Act.put, List.setIfInBounds_toArray, List.set_cons_zero, List.set_cons_succ, i64_w, i32_w]; rfl
               refine pure_ (i := 11) (N := some 11) (v := ?_) (a' := ?_) #[true, true, true, true, true, true, true, true, true, true, true, true, false] rfl rfl (any_of HT_.out (by kernel_rfl)) (fun _ _ _ h => h) (Or.inl ⟨by rfl, ?_⟩) ?_ ?_
               rotate_left; · intro w'; go_simp; with_reducible rfl
               rotate_left; · simp only [Act.put, List.setIfInBounds_toArray, List.set_cons_zero, List.set_cons_succ, i64_w, i32_w]; rfl
               refine pure_ (i := 12) (N := some 12) (v := ?_) (a' := ?_) #[true, true, true, true, true, true, true, true, true, true, true, true, true] rfl rfl (any_of HT_.out (by kernel_rfl)) (fun _ _ _ h => h) (Or.inl ⟨by rfl, ?_⟩) ?_ ?_
               rotate_left; · intro w'; go_simp; with_reducible rfl
               rotate_left; · simp only [Act.put, List.setIfInBounds_toArray, List.set_cons_zero, List.set_cons_succ, i64_w, i32_w]; rfl
               refine done_ (done_of HT_.out (by kernel_rfl)) ?_
               go_upto_region 11 with (fail)
               go_cut [107] (fun v107 wc => ∃ (kq : Nat) (x107_34 : Bool), v107 = .bool x107_34 ∧ Aside0 (gangwaylaw1_LebBack.j3 kq l0 x3_1 t222 t235 x107_34 ((rd_T26 l0 x3_1).f0) ((rd_T26 l0 x3_1).f1) ((rd_T26 l0 x3_1).f2) ((rd_T26 l0 x3_1).f3) = some r) ∧ Aside0 (kq ≤ kj10) ∧ Aside0 (Kd.R (Kd.int .u8) 5 wc w.heap.size (fun k_ => some k_ ≠ ((.slice Ao39 t235.length co39) : Value).ownBlock) (.slice Ao16 t222.length co16) t222) ∧ Aside0 (Kd.R (Kd.int .u8) 5 wc w.heap.size (fun k_ => some k_ ≠ ((.slice Ao16 t222.length co16) : Value).ownBlock) (.slice Ao39 t235.length co39) t235) ∧ Aside0 (wc.heap[gb221]? = some (.cells #[(.slice A220_0 ((rd_T26 l0 x3_1).f0).length c220_0), .int .i64 ((rd_T26 l0 x3_1).f1), .int .u64 ((rd_T26 l0 x3_1).f2), .int .i64 ((rd_T26 l0 x3_1).f3)] 26 (0, 0))) ∧ Aside0 (Below w.heap.size w wc))
               case first =>
                have H := HC35.out
                clear HC35
                replace H := Option.bind_eq_some_iff.mp H
                obtain ⟨t247, A440, H⟩ := H
                replace H : (if t247 = 0 then (if t244 = ((rd_T26 l0 x3_1).f3) then (if t245 = (t235.length : Int) then (if t245 < 1 then (gangwaylaw1_LebBack.j3 kj10 l0 x3_1 t222 t235 true ((rd_T26 l0 x3_1).f0) ((rd_T26 l0 x3_1).f1) ((rd_T26 l0 x3_1).f2) ((rd_T26 l0 x3_1).f3)) else (gangwaylaw1_LebBack.j3 kj10 l0 x3_1 t222 t235 (decide (t245 > 10)) ((rd_T26 l0 x3_1).f0) ((rd_T26 l0 x3_1).f1) ((rd_T26 l0 x3_1).f2) ((rd_T26 l0 x3_1).f3))) else (gangwaylaw1_LebBack.j3 kj10 l0 x3_1 t222 t235 true ((rd_T26 l0 x3_1).f0) ((rd_T26 l0 x3_1).f1) ((rd_T26 l0 x3_1).f2) ((rd_T26 l0 x3_1).f3))) else (gangwaylaw1_LebBack.j3 kj10 l0 x3_1 t222 t235 true ((rd_T26 l0 x3_1).f0) ((rd_T26 l0 x3_1).f1) ((rd_T26 l0 x3_1).f2) ((rd_T26 l0 x3_1).f3))) else (gangwaylaw1_LebBack.j3 kj10 l0 x3_1 t222 t235 true ((rd_T26 l0 x3_1).f0) ((rd_T26 l0 x3_1).f1) ((rd_T26 l0 x3_1).f2) ((rd_T26 l0 x3_1).f3))) = some r := H
                have A44 := Aside0.mk A440
                clear A440
                by_cases c45 : t247 = 0
                ·rw [if_pos c45] at H
                 have c45b0 : (t247 == 0) = true := beq_iff_eq.mpr c45
                 have c45b1 : (t247 != 0) = false := bne_eq_false_iff_eq.mpr c45
                 clear c45
                 (first | rw [c45b0] | (simp only [i64_w, i32_w]; rw [c45b0]) | skip)
                 by_cases c46 : t244 = ((rd_T26 l0 x3_1).f3)
                 ·rw [if_pos c46] at H
                  have c46b0 : (t244 == ((rd_T26 l0 x3_1).f3)) = true := beq_iff_eq.mpr c46
                  have c46b1 : (t244 != ((rd_T26 l0 x3_1).f3)) = false := bne_eq_false_iff_eq.mpr c46
                  clear c46
                  by_cases c47 : t245 = (t235.length : Int)
                  ·rw [if_pos c47] at H
                   have c47b0 : (t245 == (t235.length : Int)) = true := beq_iff_eq.mpr c47
                   have c47b1 : (t245 != (t235.length : Int)) = false := bne_eq_false_iff_eq.mpr c47
                   clear c47
                   by_cases c48 : t245 < 1
                   ·rw [if_pos c48] at H
                    have c48b0 : decide (t245 < 1) = true := decide_eq_true c48
                    clear c48
                    have H' := Aside0.mk H
                    clear H
                    go_wp2_with (first | ((with_reducible refine gate_callee (f := 11) rfl ?_); refine goesL_ (some 86) rfl rfl Try.func11 (by kernel_rfl) rfl #[.int .i64 t246] rfl (by (try simp only [List.map_toArray, List.map_cons, List.map_nil]); first | done | rfl | (simp only [List.length_drop, List.length_take]; rfl)) ?_; (with_reducible refine (gangwaylaw1_num.calls t246 t247 _ A44.out).mono ?_); rintro e w' ⟨rfl, ⟨nd, rfl⟩⟩; refine ⟨_, rfl, ?_⟩; have hcz49_0 : w43.cell? ⟨gb221, 0, none⟩ = some (.slice A220_0 ((rd_T26 l0 x3_1).f0).length c220_0) := (blk_cell BK221.out 0).trans rfl; have hcz49_1 : w43.cell? ⟨gb221, 1, none⟩ = some (.int .i64 ((rd_T26 l0 x3_1).f1)) := (blk_cell BK221.out 1).trans rfl; have hcz49_2 : w43.cell? ⟨gb221, 2, none⟩ = some (.int .u64 ((rd_T26 l0 x3_1).f2)) := (blk_cell BK221.out 2).trans rfl; have hcz49_3 : w43.cell? ⟨gb221, 3, none⟩ = some (.int .i64 ((rd_T26 l0 x3_1).f3)) := (blk_cell BK221.out 3).trans rfl; have hfz49_0 := blk_frozen BK221.out 0; have hfz49_1 := blk_frozen BK221.out 1; have hfz49_2 := blk_frozen BK221.out 2; have hfz49_3 := blk_frozen BK221.out 3))
                    go_meet
                    case rel => exact ⟨_, (true), (by first | rfl | (simp; done) | (simp [*]; done)), H', ⟨by have := HK1.out; have := HJ1.out; have := HJ10.out; first | omega | exact Nat.le_refl _⟩, ⟨by (with_reducible repeat (first | apply Kd.R_alloc | apply Kd.R_drewN | apply Kd.R_drew)); exact Kd.R_mono HO_5.out (fun _ hk => hk.1)⟩, ⟨by (with_reducible repeat (first | apply Kd.R_alloc | apply Kd.R_drewN | apply Kd.R_drew)); exact Kd.R_mono HO237.out (fun _ hk => hk.1)⟩, ⟨by (with_reducible repeat (first | refine blk_drewN ?_ _ | refine blk_drew ?_ | refine blk_alloc ?_ _)); exact BK221.out⟩, ⟨by repeat (first | (with_reducible first | exact HB.out | apply below_alloc | apply pw_below_drewN | apply below_drew1 | refine below_set ?_ GE221.out) | exact HB.out)⟩⟩
                   ·rw [if_neg c48] at H
                    have c48b0 : decide (t245 < 1) = false := decide_eq_false c48
                    clear c48
                    have H' := Aside0.mk H
                    clear H
                    go_wp2_with (first | ((with_reducible refine gate_callee (f := 11) rfl ?_); refine goesL_ (some 86) rfl rfl Try.func11 (by kernel_rfl) rfl #[.int .i64 t246] rfl (by (try simp only [List.map_toArray, List.map_cons, List.map_nil]); first | done | rfl | (simp only [List.length_drop, List.length_take]; rfl)) ?_; (with_reducible refine (gangwaylaw1_num.calls t246 t247 _ A44.out).mono ?_); rintro e w' ⟨rfl, ⟨nd, rfl⟩⟩; refine ⟨_, rfl, ?_⟩; have hcz50_0 : w43.cell? ⟨gb221, 0, none⟩ = some (.slice A220_0 ((rd_T26 l0 x3_1).f0).length c220_0) := (blk_cell BK221.out 0).trans rfl; have hcz50_1 : w43.cell? ⟨gb221, 1, none⟩ = some (.int .i64 ((rd_T26 l0 x3_1).f1)) := (blk_cell BK221.out 1).trans rfl; have hcz50_2 : w43.cell? ⟨gb221, 2, none⟩ = some (.int .u64 ((rd_T26 l0 x3_1).f2)) := (blk_cell BK221.out 2).trans rfl; have hcz50_3 : w43.cell? ⟨gb221, 3, none⟩ = some (.int .i64 ((rd_T26 l0 x3_1).f3)) := (blk_cell BK221.out 3).trans rfl; have hfz50_0 := blk_frozen BK221.out 0; have hfz50_1 := blk_frozen BK221.out 1; have hfz50_2 := blk_frozen BK221.out 2; have hfz50_3 := blk_frozen BK221.out 3))
                    go_meet
                    case rel => exact ⟨_, (decide (t245 > 10)), (by first | rfl | (simp; done) | (simp [*]; done)), H', ⟨by have := HK1.out; have := HJ1.out; have := HJ10.out; first | omega | exact Nat.le_refl _⟩, ⟨by (with_reducible repeat (first | apply Kd.R_alloc | apply Kd.R_drewN | apply Kd.R_drew)); exact Kd.R_mono HO_5.out (fun _ hk => hk.1)⟩, ⟨by (with_reducible repeat (first | apply Kd.R_alloc | apply Kd.R_drewN | apply Kd.R_drew)); exact Kd.R_mono HO237.out (fun _ hk => hk.1)⟩, ⟨by (with_reducible repeat (first | refine blk_drewN ?_ _ | refine blk_drew ?_ | refine blk_alloc ?_ _)); exact BK221.out⟩, ⟨by repeat (first | (with_reducible first | exact HB.out | apply below_alloc | apply pw_below_drewN | apply below_drew1 | refine below_set ?_ GE221.out) | exact HB.out)⟩⟩
                  ·rw [if_neg c47] at H
                   have c47b0 : (t245 == (t235.length : Int)) = false := beq_eq_false_iff_ne.mpr c47
                   have c47b1 : (t245 != (t235.length : Int)) = true := bne_iff_ne.mpr c47
                   have H' := Aside0.mk H
                   clear H
                   go_wp2_with (first | ((with_reducible refine gate_callee (f := 11) rfl ?_); refine goesL_ (some 86) rfl rfl Try.func11 (by kernel_rfl) rfl #[.int .i64 t246] rfl (by (try simp only [List.map_toArray, List.map_cons, List.map_nil]); first | done | rfl | (simp only [List.length_drop, List.length_take]; rfl)) ?_; (with_reducible refine (gangwaylaw1_num.calls t246 t247 _ A44.out).mono ?_); rintro e w' ⟨rfl, ⟨nd, rfl⟩⟩; refine ⟨_, rfl, ?_⟩; have hcz51_0 : w43.cell? ⟨gb221, 0, none⟩ = some (.slice A220_0 ((rd_T26 l0 x3_1).f0).length c220_0) := (blk_cell BK221.out 0).trans rfl; have hcz51_1 : w43.cell? ⟨gb221, 1, none⟩ = some (.int .i64 ((rd_T26 l0 x3_1).f1)) := (blk_cell BK221.out 1).trans rfl; have hcz51_2 : w43.cell? ⟨gb221, 2, none⟩ = some (.int .u64 ((rd_T26 l0 x3_1).f2)) := (blk_cell BK221.out 2).trans rfl; have hcz51_3 : w43.cell? ⟨gb221, 3, none⟩ = some (.int .i64 ((rd_T26 l0 x3_1).f3)) := (blk_cell BK221.out 3).trans rfl; have hfz51_0 := blk_frozen BK221.out 0; have hfz51_1 := blk_frozen BK221.out 1; have hfz51_2 := blk_frozen BK221.out 2; have hfz51_3 := blk_frozen BK221.out 3))
                   go_meet
                   case rel => exact ⟨_, (true), (by first | rfl | (simp; done) | (simp [*]; done)), H', ⟨by have := HK1.out; have := HJ1.out; have := HJ10.out; first | omega | exact Nat.le_refl _⟩, ⟨by (with_reducible repeat (first | apply Kd.R_alloc | apply Kd.R_drewN | apply Kd.R_drew)); exact Kd.R_mono HO_5.out (fun _ hk => hk.1)⟩, ⟨by (with_reducible repeat (first | apply Kd.R_alloc | apply Kd.R_drewN | apply Kd.R_drew)); exact Kd.R_mono HO237.out (fun _ hk => hk.1)⟩, ⟨by (with_reducible repeat (first | refine blk_drewN ?_ _ | refine blk_drew ?_ | refine blk_alloc ?_ _)); exact BK221.out⟩, ⟨by repeat (first | (with_reducible first | exact HB.out | apply below_alloc | apply pw_below_drewN | apply below_drew1 | refine below_set ?_ GE221.out) | exact HB.out)⟩⟩
                 ·rw [if_neg c46] at H
                  have c46b0 : (t244 == ((rd_T26 l0 x3_1).f3)) = false := beq_eq_false_iff_ne.mpr c46
                  have c46b1 : (t244 != ((rd_T26 l0 x3_1).f3)) = true := bne_iff_ne.mpr c46
                  have H' := Aside0.mk H
                  clear H
                  go_wp2_with (first | ((with_reducible refine gate_callee (f := 11) rfl ?_); refine goesL_ (some 86) rfl rfl Try.func11 (by kernel_rfl) rfl #[.int .i64 t246] rfl (by (try simp only [List.map_toArray, List.map_cons, List.map_nil]); first | done | rfl | (simp only [List.length_drop, List.length_take]; rfl)) ?_; (with_reducible refine (gangwaylaw1_num.calls t246 t247 _ A44.out).mono ?_); rintro e w' ⟨rfl, ⟨nd, rfl⟩⟩; refine ⟨_, rfl, ?_⟩; have hcz52_0 : w43.cell? ⟨gb221, 0, none⟩ = some (.slice A220_0 ((rd_T26 l0 x3_1).f0).length c220_0) := (blk_cell BK221.out 0).trans rfl; have hcz52_1 : w43.cell? ⟨gb221, 1, none⟩ = some (.int .i64 ((rd_T26 l0 x3_1).f1)) := (blk_cell BK221.out 1).trans rfl; have hcz52_2 : w43.cell? ⟨gb221, 2, none⟩ = some (.int .u64 ((rd_T26 l0 x3_1).f2)) := (blk_cell BK221.out 2).trans rfl; have hcz52_3 : w43.cell? ⟨gb221, 3, none⟩ = some (.int .i64 ((rd_T26 l0 x3_1).f3)) := (blk_cell BK221.out 3).trans rfl; have hfz52_0 := blk_frozen BK221.out 0; have hfz52_1 := blk_frozen BK221.out 1; have hfz52_2 := blk_frozen BK221.out 2; have hfz52_3 := blk_frozen BK221.out 3))
                  go_meet
                  case rel => exact ⟨_, (true), (by first | rfl | (simp; done) | (simp [*]; done)), H', ⟨by have := HK1.out; have := HJ1.out; have := HJ10.out; first | omega | exact Nat.le_refl _⟩, ⟨by (with_reducible repeat (first | apply Kd.R_alloc | apply Kd.R_drewN | apply Kd.R_drew)); exact Kd.R_mono HO_5.out (fun _ hk => hk.1)⟩, ⟨by (with_reducible repeat (first | apply Kd.R_alloc | apply Kd.R_drewN | apply Kd.R_drew)); exact Kd.R_mono HO237.out (fun _ hk => hk.1)⟩, ⟨by (with_reducible repeat (first | refine blk_drewN ?_ _ | refine blk_drew ?_ | refine blk_alloc ?_ _)); exact BK221.out⟩, ⟨by repeat (first | (with_reducible first | exact HB.out | apply below_alloc | apply pw_below_drewN | apply below_drew1 | refine below_set ?_ GE221.out) | exact HB.out)⟩⟩
                ·rw [if_neg c45] at H
                 have c45b0 : (t247 == 0) = false := beq_eq_false_iff_ne.mpr c45
                 have c45b1 : (t247 != 0) = true := bne_iff_ne.mpr c45
                 (first | rw [c45b0] | (simp only [i64_w, i32_w]; rw [c45b0]) | skip)
                 have H' := Aside0.mk H
                 clear H
                 go_wp2_with (first | ((with_reducible refine gate_callee (f := 11) rfl ?_); refine goesL_ (some 86) rfl rfl Try.func11 (by kernel_rfl) rfl #[.int .i64 t246] rfl (by (try simp only [List.map_toArray, List.map_cons, List.map_nil]); first | done | rfl | (simp only [List.length_drop, List.length_take]; rfl)) ?_; (with_reducible refine (gangwaylaw1_num.calls t246 t247 _ A44.out).mono ?_); rintro e w' ⟨rfl, ⟨nd, rfl⟩⟩; refine ⟨_, rfl, ?_⟩))
                 go_meet
                 case rel => exact ⟨_, (true), (by first | rfl | (simp; done) | (simp [*]; done)), H', ⟨by have := HK1.out; have := HJ1.out; have := HJ10.out; first | omega | exact Nat.le_refl _⟩, ⟨by (with_reducible repeat (first | apply Kd.R_alloc | apply Kd.R_drewN | apply Kd.R_drew)); exact Kd.R_mono HO_5.out (fun _ hk => hk.1)⟩, ⟨by (with_reducible repeat (first | apply Kd.R_alloc | apply Kd.R_drewN | apply Kd.R_drew)); exact Kd.R_mono HO237.out (fun _ hk => hk.1)⟩, ⟨by (with_reducible repeat (first | refine blk_drewN ?_ _ | refine blk_drew ?_ | refine blk_alloc ?_ _)); exact BK221.out⟩, ⟨by repeat (first | (with_reducible first | exact HB.out | apply below_alloc | apply pw_below_drewN | apply below_drew1 | refine below_set ?_ GE221.out) | exact HB.out)⟩⟩
               case rest =>
                as_aux_lemma =>
                 clear HC35
                 try clear c1
                 try clear c2
                 try clear p2
                 try clear q2
                 try clear hx2
                 try clear c3
                 try clear c3b0
                 try clear c4
                 try clear c5
                 try clear c5b0
                 try clear c6
                 try clear c6b0
                 try clear c9
                 try clear c11
                 try clear c14
                 try clear c16
                 try clear c18
                 try clear c20
                 try clear c22
                 try clear c22b0
                 try clear c22b1
                 try clear p22
                 try clear q22
                 try clear hx22
                 try clear c23
                 try clear c23b0
                 try clear c23b1
                 try clear c24
                 try clear c24b0
                 try clear c24b1
                 try clear c25
                 try clear c25b0
                 try clear c30
                 try clear c33
                 try clear c45
                 try clear c45b0
                 try clear c45b1
                 try clear c46
                 try clear c46b0
                 try clear c46b1
                 try clear c47
                 try clear c47b0
                 try clear c47b1
                 try clear c48
                 try clear c48b0
                 try clear hcz13_0
                 try clear hcz13_1
                 try clear hcz13_2
                 try clear hcz13_3
                 try clear hcz26_0
                 try clear hcz26_1
                 try clear hcz26_2
                 try clear hcz26_3
                 try clear hcz27_0
                 try clear hcz27_1
                 try clear hcz27_2
                 try clear hcz27_3
                 try clear hcz28_0
                 try clear hcz28_1
                 try clear hcz28_2
                 try clear hcz28_3
                 try clear hcz29_0
                 try clear hcz29_1
                 try clear hcz29_2
                 try clear hcz29_3
                 try clear hcz36_0
                 try clear hcz36_1
                 try clear hcz36_2
                 try clear hcz36_3
                 try clear hcz49_0
                 try clear hcz49_1
                 try clear hcz49_2
                 try clear hcz49_3
                 try clear hcz50_0
                 try clear hcz50_1
                 try clear hcz50_2
                 try clear hcz50_3
                 try clear hcz51_0
                 try clear hcz51_1
                 try clear hcz51_2
                 try clear hcz51_3
                 try clear hcz52_0
                 try clear hcz52_1
                 try clear hcz52_2
                 try clear hcz52_3
                 try clear hfz13_0
                 try clear hfz13_1
                 try clear hfz13_2
                 try clear hfz13_3
                 try clear hfz26_0
                 try clear hfz26_1
                 try clear hfz26_2
                 try clear hfz26_3
                 try clear hfz27_0
                 try clear hfz27_1
                 try clear hfz27_2
                 try clear hfz27_3
                 try clear hfz28_0
                 try clear hfz28_1
                 try clear hfz28_2
                 try clear hfz28_3
                 try clear hfz29_0
                 try clear hfz29_1
                 try clear hfz29_2
                 try clear hfz29_3
                 try clear hfz36_0
                 try clear hfz36_1
                 try clear hfz36_2
                 try clear hfz36_3
                 try clear hfz49_0
                 try clear hfz49_1
                 try clear hfz49_2
                 try clear hfz49_3
                 try clear hfz50_0
                 try clear hfz50_1
                 try clear hfz50_2
                 try clear hfz50_3
                 try clear hfz51_0
                 try clear hfz51_1
                 try clear hfz51_2
                 try clear hfz51_3
                 try clear hfz52_0
                 try clear hfz52_1
                 try clear hfz52_2
                 try clear hfz52_3
                 try clear hx220_0
                 try clear hx220_1
                 try clear hx220_2
                 try clear hx220_3
                 try clear p2
                 try clear p22
                 try clear p220
                 try clear q2
                 try clear q22
                 try clear q220
                 obtain ⟨kq, x107_34, rfl, HA, HJ34, HO_5, HO_9, BK221, HB⟩ := hcut
                 cases kq with
                 | zero => exact absurd HA.out (by simp [gangwaylaw1_LebBack.j3])
                 | succ kj34 =>
                  have H := HA.out
                  clear HA
                  simp only [gangwaylaw1_LebBack.j3] at H
                  by_cases c53 : x107_34 = true
                  ·subst c53
                   have H1 : (some false) = some r := by rw [if_pos rfl] at H; exact H
                   clear H
                   have H := H1
                   clear H1
                   obtain rfl := Option.some.inj H
                   go_wp2
                   go_ret
                   exact ⟨by first | rfl | (simp [errW_none, errW_some] <;> rfl) | (simp [*, errW_none, errW_some] <;> rfl), by repeat (first | (with_reducible first | exact HB.out | apply below_alloc | apply pw_below_drewN | apply below_drew1 | refine below_set ?_ GE221.out) | exact HB.out)⟩
                  ·replace c53 := Bool.eq_false_iff.mpr c53
                   subst c53
                   have H1 : (if 0 ≤ (wrap64 ((t222.length : Int) - 1)) then (if (wrap64 ((t222.length : Int) - 1)) ≤ (t222.length : Int) then ((leb_Uint.f kj34 (t222.take ((wrap64 ((t222.length : Int) - 1)) : Int).toNat) 64).bind fun bt252 => (if 0 ≤ (wrap64 ((t235.length : Int) - 1)) then (if (wrap64 ((t235.length : Int) - 1)) ≤ (t235.length : Int) then ((leb_Sint.f kj34 (t235.take ((wrap64 ((t235.length : Int) - 1)) : Int).toNat) 64).bind fun bt259 => ((gangwaylaw1_num.f bt252.2.2).bind fun t262 => (if t262 = 100 then ((gangwaylaw1_num.f bt259.2.2).bind fun t263 => (gangwaylaw1_LebBack.j4 kj34 l0 x3_1 t222 t235 (t263 != 100) ((rd_T26 l0 x3_1).f0) ((rd_T26 l0 x3_1).f1) ((rd_T26 l0 x3_1).f2) ((rd_T26 l0 x3_1).f3))) else (gangwaylaw1_LebBack.j4 kj34 l0 x3_1 t222 t235 true ((rd_T26 l0 x3_1).f0) ((rd_T26 l0 x3_1).f1) ((rd_T26 l0 x3_1).f2) ((rd_T26 l0 x3_1).f3))))) else (none)) else (none))) else (none)) else (none)) = some r := by rw [if_neg (show ¬ (false = true) by decide)] at H; exact H
                   clear H
                   have H := H1
                   clear H1
                   obtain ⟨ji54, hji54⟩ : ∃ j_ : Int, (wrap64 ((t222.length : Int) - 1)) = j_ := ⟨_, rfl⟩
                   replace H : (if 0 ≤ (ji54) then (if (ji54) ≤ (t222.length : Int) then ((leb_Uint.f kj34 (t222.take ((ji54) : Int).toNat) 64).bind fun bt252 => (if 0 ≤ (wrap64 ((t235.length : Int) - 1)) then (if (wrap64 ((t235.length : Int) - 1)) ≤ (t235.length : Int) then ((leb_Sint.f kj34 (t235.take ((wrap64 ((t235.length : Int) - 1)) : Int).toNat) 64).bind fun bt259 => ((gangwaylaw1_num.f bt252.2.2).bind fun t262 => (if t262 = 100 then ((gangwaylaw1_num.f bt259.2.2).bind fun t263 => (gangwaylaw1_LebBack.j4 kj34 l0 x3_1 t222 t235 (t263 != 100) ((rd_T26 l0 x3_1).f0) ((rd_T26 l0 x3_1).f1) ((rd_T26 l0 x3_1).f2) ((rd_T26 l0 x3_1).f3))) else (gangwaylaw1_LebBack.j4 kj34 l0 x3_1 t222 t235 true ((rd_T26 l0 x3_1).f0) ((rd_T26 l0 x3_1).f1) ((rd_T26 l0 x3_1).f2) ((rd_T26 l0 x3_1).f3))))) else (none)) else (none))) else (none)) else (none)) = some r := by first | (rw [hji54] at H; exact H) | (simp only [hji54] at H ⊢; exact H)
                   have hji54w : (IntKind.i64.wrap ((t222.length : Int) - 1)) = ji54 := (i64_w _).trans hji54
                   by_cases c55 : 0 ≤ (ji54)
                   ·rw [if_pos c55] at H
                    have c55b0 := eq_true c55
                    have c55b1 : decide (0 ≤ (ji54)) = true := decide_eq_true c55
                    clear c55
                    by_cases c56 : (ji54) ≤ (t222.length : Int)
                    ·rw [if_pos c56] at H
                     have c56b0 := eq_true c56
                     have c56b1 : decide ((ji54) ≤ (t222.length : Int)) = true := decide_eq_true c56
                     clear c56
                     obtain ⟨y248, hy248⟩ : ∃ y_ : List Int, y_ = (t222.take ((ji54) : Int).toNat) := ⟨_, rfl⟩
                     replace H : ((leb_Uint.f kj34 y248 64).bind fun bt252 => (if 0 ≤ (wrap64 ((t235.length : Int) - 1)) then (if (wrap64 ((t235.length : Int) - 1)) ≤ (t235.length : Int) then ((leb_Sint.f kj34 (t235.take ((wrap64 ((t235.length : Int) - 1)) : Int).toNat) 64).bind fun bt259 => ((gangwaylaw1_num.f bt252.2.2).bind fun t262 => (if t262 = 100 then ((gangwaylaw1_num.f bt259.2.2).bind fun t263 => (gangwaylaw1_LebBack.j4 kj34 l0 x3_1 t222 t235 (t263 != 100) ((rd_T26 l0 x3_1).f0) ((rd_T26 l0 x3_1).f1) ((rd_T26 l0 x3_1).f2) ((rd_T26 l0 x3_1).f3))) else (gangwaylaw1_LebBack.j4 kj34 l0 x3_1 t222 t235 true ((rd_T26 l0 x3_1).f0) ((rd_T26 l0 x3_1).f1) ((rd_T26 l0 x3_1).f2) ((rd_T26 l0 x3_1).f3))))) else (none)) else (none))) = some r := by first | (rw [hy248]; with_reducible exact H) | (have H2_ := (Option.bind_some _ _).symm.trans H; rw [hy248]; with_reducible exact H2_) | (have H2_ := (Option.bind_some _ _).symm.trans H; with_reducible exact H2_) | with_reducible exact H | (rw [hy248]; exact H) | exact H
                     have Ny248 := Aside0.mk hy248
                     clear hy248
                     replace H := Option.bind_eq_some_iff.mp H
                     obtain ⟨⟨t252, t253, t254⟩, A570, H⟩ := H
                     replace H : (if 0 ≤ (wrap64 ((t235.length : Int) - 1)) then (if (wrap64 ((t235.length : Int) - 1)) ≤ (t235.length : Int) then ((leb_Sint.f kj34 (t235.take ((wrap64 ((t235.length : Int) - 1)) : Int).toNat) 64).bind fun bt259 => ((gangwaylaw1_num.f t254).bind fun t262 => (if t262 = 100 then ((gangwaylaw1_num.f bt259.2.2).bind fun t263 => (gangwaylaw1_LebBack.j4 kj34 l0 x3_1 t222 t235 (t263 != 100) ((rd_T26 l0 x3_1).f0) ((rd_T26 l0 x3_1).f1) ((rd_T26 l0 x3_1).f2) ((rd_T26 l0 x3_1).f3))) else (gangwaylaw1_LebBack.j4 kj34 l0 x3_1 t222 t235 true ((rd_T26 l0 x3_1).f0) ((rd_T26 l0 x3_1).f1) ((rd_T26 l0 x3_1).f2) ((rd_T26 l0 x3_1).f3))))) else (none)) else (none)) = some r := H
                     have A57 := Aside0.mk A570
                     clear A570
                     obtain ⟨ji58, hji58⟩ : ∃ j_ : Int, (wrap64 ((t235.length : Int) - 1)) = j_ := ⟨_, rfl⟩
                     replace H : (if 0 ≤ (ji58) then (if (ji58) ≤ (t235.length : Int) then ((leb_Sint.f kj34 (t235.take ((ji58) : Int).toNat) 64).bind fun bt259 => ((gangwaylaw1_num.f t254).bind fun t262 => (if t262 = 100 then ((gangwaylaw1_num.f bt259.2.2).bind fun t263 => (gangwaylaw1_LebBack.j4 kj34 l0 x3_1 t222 t235 (t263 != 100) ((rd_T26 l0 x3_1).f0) ((rd_T26 l0 x3_1).f1) ((rd_T26 l0 x3_1).f2) ((rd_T26 l0 x3_1).f3))) else (gangwaylaw1_LebBack.j4 kj34 l0 x3_1 t222 t235 true ((rd_T26 l0 x3_1).f0) ((rd_T26 l0 x3_1).f1) ((rd_T26 l0 x3_1).f2) ((rd_T26 l0 x3_1).f3))))) else (none)) else (none)) = some r := by first | (rw [hji58] at H; exact H) | (simp only [hji58] at H ⊢; exact H)
                     (try rw [hji58] at A57)
                     have hji58w : (IntKind.i64.wrap ((t235.length : Int) - 1)) = ji58 := (i64_w _).trans hji58
                     by_cases c59 : 0 ≤ (ji58)
                     ·rw [if_pos c59] at H
                      have c59b0 := eq_true c59
                      have c59b1 : decide (0 ≤ (ji58)) = true := decide_eq_true c59
                      clear c59
                      by_cases c60 : (ji58) ≤ (t235.length : Int)
                      ·rw [if_pos c60] at H
                       have c60b0 := eq_true c60
                       have c60b1 : decide ((ji58) ≤ (t235.length : Int)) = true := decide_eq_true c60
                       clear c60
                       obtain ⟨y255, hy255⟩ : ∃ y_ : List Int, y_ = (t235.take ((ji58) : Int).toNat) := ⟨_, rfl⟩
                       replace H : ((leb_Sint.f kj34 y255 64).bind fun bt259 => ((gangwaylaw1_num.f t254).bind fun t262 => (if t262 = 100 then ((gangwaylaw1_num.f bt259.2.2).bind fun t263 => (gangwaylaw1_LebBack.j4 kj34 l0 x3_1 t222 t235 (t263 != 100) ((rd_T26 l0 x3_1).f0) ((rd_T26 l0 x3_1).f1) ((rd_T26 l0 x3_1).f2) ((rd_T26 l0 x3_1).f3))) else (gangwaylaw1_LebBack.j4 kj34 l0 x3_1 t222 t235 true ((rd_T26 l0 x3_1).f0) ((rd_T26 l0 x3_1).f1) ((rd_T26 l0 x3_1).f2) ((rd_T26 l0 x3_1).f3))))) = some r := by first | (rw [hy255]; with_reducible exact H) | (have H2_ := (Option.bind_some _ _).symm.trans H; rw [hy255]; with_reducible exact H2_) | (have H2_ := (Option.bind_some _ _).symm.trans H; with_reducible exact H2_) | with_reducible exact H | (rw [hy255]; exact H) | exact H
                       have Ny255 := Aside0.mk hy255
                       clear hy255
                       replace H := Option.bind_eq_some_iff.mp H
                       obtain ⟨⟨t259, t260, t261⟩, A610, H⟩ := H
                       replace H : ((gangwaylaw1_num.f t254).bind fun t262 => (if t262 = 100 then ((gangwaylaw1_num.f t261).bind fun t263 => (gangwaylaw1_LebBack.j4 kj34 l0 x3_1 t222 t235 (t263 != 100) ((rd_T26 l0 x3_1).f0) ((rd_T26 l0 x3_1).f1) ((rd_T26 l0 x3_1).f2) ((rd_T26 l0 x3_1).f3))) else (gangwaylaw1_LebBack.j4 kj34 l0 x3_1 t222 t235 true ((rd_T26 l0 x3_1).f0) ((rd_T26 l0 x3_1).f1) ((rd_T26 l0 x3_1).f2) ((rd_T26 l0 x3_1).f3)))) = some r := H
                       have A61 := Aside0.mk A610
                       clear A610
                       have HC62 := Aside0.mk H
                       clear H
                       have q63 : ((ji54) : Int) ≤ ((t222.length : Int) : Int) := of_decide_eq_true (by first | (with_reducible assumption) | assumption)
                       obtain ⟨i063, hi063, _, hsz63, _⟩ := info_parts info5
                       have hroom63 : t222.length ≤ co16 := (Kd.R_reads' HO_5.out).2.1
                       have hC63 : Kd.C (Kd.int .u8) _ Ao16 t222.length t222 := (Kd.R_reads' HO_5.out).2.2
                       have hcut63 := cut_to (P := Try.prog) 23 5 .i64 Try.underlying23 hi063 Ao16 t222.length co16 (ji54) (of_decide_eq_true (by first | (with_reducible assumption) | assumption)) q63 hroom63
                       have hr63 := Kd.C_take (m := ((ji54) : Int).toNat) hC63 (by omega)
                       have hy63 : y248.length = ((ji54) : Int).toNat := (by rw [Ny248.out, List.length_take]; omega)
                       rw [← Ny248.out] at hr63
                       rw [← hy63] at hcut63
                       have HR251 := Aside0.mk hr63
                       have HC251 := Aside0.mk (show y248.length ≤ co16 from by omega)
                       clear hr63 hC63 hroom63 hi063 hsz63
                       have KY63 := Aside0.mk hy63
                       clear hy63
                       have KL63 := Aside0.mk (show ((ji54) : Int).toNat ≤ t222.length from by omega)
                       replace q63 := eq_true q63
                       go_upto_region 15 with (first | ((with_reducible refine gate_callee (f := 9) rfl ?_); refine goesL_ (some 114) rfl rfl Try.func9 (by kernel_rfl) rfl #[.slice Ao16 y248.length co16, .int .i64 64] rfl (by (try simp only [List.map_toArray, List.map_cons, List.map_nil]); first | done | rfl | (simp only [List.length_drop, List.length_take]; rfl)) ?_; (with_reducible refine (leb_Uint.calls kj34 _ _ y248 64 t252 t253 t254 _ ?side1 ?side2 A57.out).mono ?_); (case side1 => repeat (first | exact (by repeat (first | (with_reducible exact HR251.out) | (with_reducible refine Kd.C_alloc ?_ _) | (with_reducible refine Kd.C_drewN ?_ _) | (with_reducible refine Kd.C_drew ?_) | exact HR251.out)) | (with_reducible refine Kd.C_alloc ?_ _) | (with_reducible refine Kd.C_drewN ?_ _) | (with_reducible refine Kd.C_drew ?_))); (case side2 => exact HC251.out); rintro e w64 ⟨rfl, hb⟩; refine ⟨_, rfl, ?_⟩; have n0_ := Aside0.mk (Kd.R_below (by (with_reducible repeat (first | apply Kd.R_alloc | apply Kd.R_drewN | apply Kd.R_drew)); exact HO_5.out) hb); have n1_ := Aside0.mk (Kd.R_below (by (with_reducible repeat (first | apply Kd.R_alloc | apply Kd.R_drewN | apply Kd.R_drew)); exact HO_9.out) hb); have n2_ := Aside0.mk (blk_below (g := gb221) (o := .cells #[.slice A220_0 ((rd_T26 l0 x3_1).f0).length c220_0, .int .i64 ((rd_T26 l0 x3_1).f1), .int .u64 ((rd_T26 l0 x3_1).f2), .int .i64 ((rd_T26 l0 x3_1).f3)] 26 (0, 0)) (by (with_reducible repeat (first | refine blk_drewN ?_ _ | refine blk_drew ?_ | refine blk_alloc ?_ _)); exact BK221.out) hb); have n3_ := Aside0.mk (Kd.C_below (by repeat (first | (with_reducible exact HR251.out) | (with_reducible refine Kd.C_alloc ?_ _) | (with_reducible refine Kd.C_drewN ?_ _) | (with_reducible refine Kd.C_drew ?_) | exact HR251.out)) hb); have n4_ := Aside0.mk (below_step (by repeat (first | (with_reducible first | exact HB.out | apply below_alloc | apply pw_below_drewN | apply below_drew1 | refine below_set ?_ GE221.out) | exact HB.out)) hb); clear HO_5; clear HO_9; clear BK221; clear HR251; clear HB; have HO_5 := n0_; have HO_9 := n1_; have BK221 := n2_; have HR251 := n3_; have HB := n4_; clear n0_ n1_ n2_ n3_ n4_; (try clear hb); (try clear hb2); (try clear hk); (try clear hi); have q65 : ((ji58) : Int) ≤ ((t235.length : Int) : Int) := of_decide_eq_true (by first | (with_reducible assumption) | assumption); obtain ⟨i065, hi065, _, hsz65, _⟩ := info_parts info5; have hroom65 : t235.length ≤ co39 := (Kd.R_reads' HO_9.out).2.1; have hC65 : Kd.C (Kd.int .u8) _ Ao39 t235.length t235 := (Kd.R_reads' HO_9.out).2.2; have hcut65 := cut_to (P := Try.prog) 23 5 .i64 Try.underlying23 hi065 Ao39 t235.length co39 (ji58) (of_decide_eq_true (by first | (with_reducible assumption) | assumption)) q65 hroom65; have hr65 := Kd.C_take (m := ((ji58) : Int).toNat) hC65 (by omega); have hy65 : y255.length = ((ji58) : Int).toNat := (by rw [Ny255.out, List.length_take]; omega); rw [← Ny255.out] at hr65; rw [← hy65] at hcut65; have HR258 := Aside0.mk hr65; have HC258 := Aside0.mk (show y255.length ≤ co39 from by omega); clear hr65 hC65 hroom65 hi065 hsz65; have KY65 := Aside0.mk hy65; clear hy65; have KL65 := Aside0.mk (show ((ji58) : Int).toNat ≤ t235.length from by omega); replace q65 := eq_true q65) | ((with_reducible refine gate_callee (f := 18) rfl ?_); refine goesL_ (some 124) rfl rfl Try.func18 (by kernel_rfl) rfl #[.slice Ao39 y255.length co39, .int .i64 64] rfl (by (try simp only [List.map_toArray, List.map_cons, List.map_nil]); first | done | rfl | (simp only [List.length_drop, List.length_take]; rfl)) ?_; (with_reducible refine (leb_Sint.calls kj34 _ _ y255 64 t259 t260 t261 _ ?side1 ?side2 A61.out).mono ?_); (case side1 => repeat (first | exact (by repeat (first | (with_reducible exact HR258.out) | (with_reducible refine Kd.C_alloc ?_ _) | (with_reducible refine Kd.C_drewN ?_ _) | (with_reducible refine Kd.C_drew ?_) | exact HR258.out)) | (with_reducible refine Kd.C_alloc ?_ _) | (with_reducible refine Kd.C_drewN ?_ _) | (with_reducible refine Kd.C_drew ?_))); (case side2 => exact HC258.out); rintro e w66 ⟨rfl, hb⟩; refine ⟨_, rfl, ?_⟩; have n0_ := Aside0.mk (Kd.R_below (by (with_reducible repeat (first | apply Kd.R_alloc | apply Kd.R_drewN | apply Kd.R_drew)); exact HO_5.out) hb); have n1_ := Aside0.mk (Kd.R_below (by (with_reducible repeat (first | apply Kd.R_alloc | apply Kd.R_drewN | apply Kd.R_drew)); exact HO_9.out) hb); have n2_ := Aside0.mk (blk_below (g := gb221) (o := .cells #[.slice A220_0 ((rd_T26 l0 x3_1).f0).length c220_0, .int .i64 ((rd_T26 l0 x3_1).f1), .int .u64 ((rd_T26 l0 x3_1).f2), .int .i64 ((rd_T26 l0 x3_1).f3)] 26 (0, 0)) (by (with_reducible repeat (first | refine blk_drewN ?_ _ | refine blk_drew ?_ | refine blk_alloc ?_ _)); exact BK221.out) hb); have n3_ := Aside0.mk (Kd.C_below (by repeat (first | (with_reducible exact HR251.out) | (with_reducible refine Kd.C_alloc ?_ _) | (with_reducible refine Kd.C_drewN ?_ _) | (with_reducible refine Kd.C_drew ?_) | exact HR251.out)) hb); have n4_ := Aside0.mk (Kd.C_below (by repeat (first | (with_reducible exact HR258.out) | (with_reducible refine Kd.C_alloc ?_ _) | (with_reducible refine Kd.C_drewN ?_ _) | (with_reducible refine Kd.C_drew ?_) | exact HR258.out)) hb); have n5_ := Aside0.mk (below_step (by repeat (first | (with_reducible first | exact HB.out | apply below_alloc | apply pw_below_drewN | apply below_drew1 | refine below_set ?_ GE221.out) | exact HB.out)) hb); clear HO_5; clear HO_9; clear BK221; clear HR251; clear HR258; clear HB; have HO_5 := n0_; have HO_9 := n1_; have BK221 := n2_; have HR251 := n3_; have HR258 := n4_; have HB := n5_; clear n0_ n1_ n2_ n3_ n4_ n5_; (try clear hb); (try clear hb2); (try clear hk); (try clear hi)))
                       (try simp only [Act.put, List.setIfInBounds_toArray, List.set_cons_zero, List.set_cons_succ])
                       go_cut [135] (fun v135 wc => ∃ (kq : Nat) (x135_61 : Bool), v135 = .bool x135_61 ∧ Aside0 (gangwaylaw1_LebBack.j4 kq l0 x3_1 t222 t235 x135_61 ((rd_T26 l0 x3_1).f0) ((rd_T26 l0 x3_1).f1) ((rd_T26 l0 x3_1).f2) ((rd_T26 l0 x3_1).f3) = some r) ∧ Aside0 (kq ≤ kj34) ∧ Aside0 (Kd.R (Kd.int .u8) 5 wc w.heap.size (fun k_ => some k_ ≠ ((.slice Ao39 t235.length co39) : Value).ownBlock) (.slice Ao16 t222.length co16) t222) ∧ Aside0 (Kd.R (Kd.int .u8) 5 wc w.heap.size (fun k_ => some k_ ≠ ((.slice Ao16 t222.length co16) : Value).ownBlock) (.slice Ao39 t235.length co39) t235) ∧ Aside0 (wc.heap[gb221]? = some (.cells #[(.slice A220_0 ((rd_T26 l0 x3_1).f0).length c220_0), .int .i64 ((rd_T26 l0 x3_1).f1), .int .u64 ((rd_T26 l0 x3_1).f2), .int .i64 ((rd_T26 l0 x3_1).f3)] 26 (0, 0))) ∧ Aside0 (Below w.heap.size w wc))
                       case first =>
                        have H := HC62.out
                        clear HC62
                        replace H := Option.bind_eq_some_iff.mp H
                        obtain ⟨t262, A670, H⟩ := H
                        replace H : (if t262 = 100 then ((gangwaylaw1_num.f t261).bind fun t263 => (gangwaylaw1_LebBack.j4 kj34 l0 x3_1 t222 t235 (t263 != 100) ((rd_T26 l0 x3_1).f0) ((rd_T26 l0 x3_1).f1) ((rd_T26 l0 x3_1).f2) ((rd_T26 l0 x3_1).f3))) else (gangwaylaw1_LebBack.j4 kj34 l0 x3_1 t222 t235 true ((rd_T26 l0 x3_1).f0) ((rd_T26 l0 x3_1).f1) ((rd_T26 l0 x3_1).f2) ((rd_T26 l0 x3_1).f3))) = some r := H
                        have A67 := Aside0.mk A670
                        clear A670
                        by_cases c68 : t262 = 100
                        ·rw [if_pos c68] at H
                         have c68b0 : (t262 == 100) = true := beq_iff_eq.mpr c68
                         have c68b1 : (t262 != 100) = false := bne_eq_false_iff_eq.mpr c68
                         clear c68
                         (first | rw [c68b0] | (simp only [i64_w, i32_w]; rw [c68b0]) | skip)
                         replace H := Option.bind_eq_some_iff.mp H
                         obtain ⟨t263, A690, H⟩ := H
                         replace H : (gangwaylaw1_LebBack.j4 kj34 l0 x3_1 t222 t235 (t263 != 100) ((rd_T26 l0 x3_1).f0) ((rd_T26 l0 x3_1).f1) ((rd_T26 l0 x3_1).f2) ((rd_T26 l0 x3_1).f3)) = some r := H
                         have A69 := Aside0.mk A690
                         clear A690
                         have H' := Aside0.mk H
                         clear H
                         go_wp2_with (first | ((with_reducible refine gate_callee (f := 11) rfl ?_); refine goesL_ (some 129) rfl rfl Try.func11 (by kernel_rfl) rfl #[.int .i64 t254] rfl (by (try simp only [List.map_toArray, List.map_cons, List.map_nil]); first | done | rfl | (simp only [List.length_drop, List.length_take]; rfl)) ?_; (with_reducible refine (gangwaylaw1_num.calls t254 t262 _ A67.out).mono ?_); rintro e w' ⟨rfl, ⟨nd, rfl⟩⟩; refine ⟨_, rfl, ?_⟩) | (go_at_call 11; (with_reducible refine (gangwaylaw1_num.calls t261 t263 _ A69.out).mono ?_); rintro e w' ⟨rfl, ⟨nd, rfl⟩⟩))
                         go_meet
                         case rel => exact ⟨_, ((t263 != 100)), (by first | rfl | (simp; done) | (simp [*]; done)), H', ⟨by have := HK1.out; have := HJ1.out; have := HJ10.out; have := HJ34.out; first | omega | exact Nat.le_refl _⟩, ⟨by (with_reducible repeat (first | apply Kd.R_alloc | apply Kd.R_drewN | apply Kd.R_drew)); exact HO_5.out⟩, ⟨by (with_reducible repeat (first | apply Kd.R_alloc | apply Kd.R_drewN | apply Kd.R_drew)); exact HO_9.out⟩, ⟨by (with_reducible repeat (first | refine blk_drewN ?_ _ | refine blk_drew ?_ | refine blk_alloc ?_ _)); exact BK221.out⟩, ⟨by repeat (first | (with_reducible first | exact HB.out | apply below_alloc | apply pw_below_drewN | apply below_drew1 | refine below_set ?_ GE221.out) | exact HB.out)⟩⟩
                        ·rw [if_neg c68] at H
                         have c68b0 : (t262 == 100) = false := beq_eq_false_iff_ne.mpr c68
                         have c68b1 : (t262 != 100) = true := bne_iff_ne.mpr c68
                         (first | rw [c68b0] | (simp only [i64_w, i32_w]; rw [c68b0]) | skip)
                         have H' := Aside0.mk H
                         clear H
                         go_wp2_with (first | ((with_reducible refine gate_callee (f := 11) rfl ?_); refine goesL_ (some 129) rfl rfl Try.func11 (by kernel_rfl) rfl #[.int .i64 t254] rfl (by (try simp only [List.map_toArray, List.map_cons, List.map_nil]); first | done | rfl | (simp only [List.length_drop, List.length_take]; rfl)) ?_; (with_reducible refine (gangwaylaw1_num.calls t254 t262 _ A67.out).mono ?_); rintro e w' ⟨rfl, ⟨nd, rfl⟩⟩; refine ⟨_, rfl, ?_⟩))
                         go_meet
                         case rel => exact ⟨_, (true), (by first | rfl | (simp; done) | (simp [*]; done)), H', ⟨by have := HK1.out; have := HJ1.out; have := HJ10.out; have := HJ34.out; first | omega | exact Nat.le_refl _⟩, ⟨by (with_reducible repeat (first | apply Kd.R_alloc | apply Kd.R_drewN | apply Kd.R_drew)); exact HO_5.out⟩, ⟨by (with_reducible repeat (first | apply Kd.R_alloc | apply Kd.R_drewN | apply Kd.R_drew)); exact HO_9.out⟩, ⟨by (with_reducible repeat (first | refine blk_drewN ?_ _ | refine blk_drew ?_ | refine blk_alloc ?_ _)); exact BK221.out⟩, ⟨by repeat (first | (with_reducible first | exact HB.out | apply below_alloc | apply pw_below_drewN | apply below_drew1 | refine below_set ?_ GE221.out) | exact HB.out)⟩⟩
                       case rest =>
                        as_aux_lemma =>
                         clear HC62
                         try clear c1
                         try clear c2
                         try clear p2
                         try clear q2
                         try clear hx2
                         try clear c3
                         try clear c3b0
                         try clear c4
                         try clear c5
                         try clear c5b0
                         try clear c6
                         try clear c6b0
                         try clear p6
                         try clear q6
                         try clear c9
                         try clear c11
                         try clear c14
                         try clear c16
                         try clear c18
                         try clear c20
                         try clear c22
                         try clear c22b0
                         try clear c22b1
                         try clear p22
                         try clear q22
                         try clear hx22
                         try clear c23
                         try clear c23b0
                         try clear c23b1
                         try clear c24
                         try clear c24b0
                         try clear c24b1
                         try clear c25
                         try clear c25b0
                         try clear c30
                         try clear c33
                         try clear c45
                         try clear c45b0
                         try clear c45b1
                         try clear c46
                         try clear c46b0
                         try clear c46b1
                         try clear c47
                         try clear c47b0
                         try clear c47b1
                         try clear c48
                         try clear c48b0
                         try clear c53
                         try clear c55
                         try clear c55b0
                         try clear c55b1
                         try clear c56
                         try clear c56b0
                         try clear c56b1
                         try clear c59
                         try clear c59b0
                         try clear c59b1
                         try clear c60
                         try clear c60b0
                         try clear c60b1
                         try clear q63
                         try clear p64
                         try clear q65
                         try clear c68
                         try clear c68b0
                         try clear c68b1
                         try clear hcz13_0
                         try clear hcz13_1
                         try clear hcz13_2
                         try clear hcz13_3
                         try clear hcz26_0
                         try clear hcz26_1
                         try clear hcz26_2
                         try clear hcz26_3
                         try clear hcz27_0
                         try clear hcz27_1
                         try clear hcz27_2
                         try clear hcz27_3
                         try clear hcz28_0
                         try clear hcz28_1
                         try clear hcz28_2
                         try clear hcz28_3
                         try clear hcz29_0
                         try clear hcz29_1
                         try clear hcz29_2
                         try clear hcz29_3
                         try clear hcz36_0
                         try clear hcz36_1
                         try clear hcz36_2
                         try clear hcz36_3
                         try clear hcz49_0
                         try clear hcz49_1
                         try clear hcz49_2
                         try clear hcz49_3
                         try clear hcz50_0
                         try clear hcz50_1
                         try clear hcz50_2
                         try clear hcz50_3
                         try clear hcz51_0
                         try clear hcz51_1
                         try clear hcz51_2
                         try clear hcz51_3
                         try clear hcz52_0
                         try clear hcz52_1
                         try clear hcz52_2
                         try clear hcz52_3
                         try clear hfz13_0
                         try clear hfz13_1
                         try clear hfz13_2
                         try clear hfz13_3
                         try clear hfz26_0
                         try clear hfz26_1
                         try clear hfz26_2
                         try clear hfz26_3
                         try clear hfz27_0
                         try clear hfz27_1
                         try clear hfz27_2
                         try clear hfz27_3
                         try clear hfz28_0
                         try clear hfz28_1
                         try clear hfz28_2
                         try clear hfz28_3
                         try clear hfz29_0
                         try clear hfz29_1
                         try clear hfz29_2
                         try clear hfz29_3
                         try clear hfz36_0
                         try clear hfz36_1
                         try clear hfz36_2
                         try clear hfz36_3
                         try clear hfz49_0
                         try clear hfz49_1
                         try clear hfz49_2
                         try clear hfz49_3
                         try clear hfz50_0
                         try clear hfz50_1
                         try clear hfz50_2
                         try clear hfz50_3
                         try clear hfz51_0
                         try clear hfz51_1
                         try clear hfz51_2
                         try clear hfz51_3
                         try clear hfz52_0
                         try clear hfz52_1
                         try clear hfz52_2
                         try clear hfz52_3
                         try clear hx220_0
                         try clear hx220_1
                         try clear hx220_2
                         try clear hx220_3
                         try clear p2
                         try clear p22
                         try clear p220
                         try clear q2
                         try clear q22
                         try clear q220
                         try clear q63
                         try clear q65
                         obtain ⟨kq, x135_61, rfl, HA, HJ61, HO_5, HO_9, BK221, HB⟩ := hcut
                         cases kq with
                         | zero => exact absurd HA.out (by simp [gangwaylaw1_LebBack.j4])
                         | succ kj61 =>
                          have H := HA.out
                          clear HA
                          simp only [gangwaylaw1_LebBack.j4] at H
                          by_cases c70 : x135_61 = true
                          ·subst c70
                           have H1 : (some false) = some r := by rw [if_pos rfl] at H; exact H
                           clear H
                           have H := H1
                           clear H1
                           obtain rfl := Option.some.inj H
                           go_wp2
                           go_ret
                           exact ⟨by first | rfl | (simp [errW_none, errW_some] <;> rfl) | (simp only [← hji54, ← hji58]; first | rfl | (simp [errW_none, errW_some] <;> rfl)) | (simp [*, errW_none, errW_some] <;> rfl), by repeat (first | (with_reducible first | exact HB.out | apply below_alloc | apply pw_below_drewN | apply below_drew1 | refine below_set ?_ GE221.out) | exact HB.out)⟩
                          ·replace c70 := Bool.eq_false_iff.mpr c70
                           subst c70
                           have H1 : (if (t222.length : Int) < 10 then ((gangwayref0_CopyBytes.f kj61 t222).bind fun t264 => (if 0 ≤ (wrap64 ((t264.length : Int) - 1)) then (if (wrap64 ((t264.length : Int) - 1)) < (t264.length : Int) then ((some (t264.set ((wrap64 ((t264.length : Int) - 1)) : Int).toNat (Go.bits .or .u8 (rd t264 (wrap64 ((t264.length : Int) - 1))) 128) : List Int)).bind fun y268 => (if y268.length < 140737488355328 then ((leb_Uint.f kj61 (y268 ++ [0]) 64).bind fun bt272 => ((gangwaylaw1_num.f bt272.2.2).bind fun t275 => (if t275 = 0 then (if bt272.1 = ((rd_T26 l0 x3_1).f2) then (if bt272.2.1 = (wrap64 ((t222.length : Int) + 1)) then (gangwaylaw1_LebBack.j5 kj61 l0 x3_1 t235 ((rd_T26 l0 x3_1).f0) ((rd_T26 l0 x3_1).f1) ((rd_T26 l0 x3_1).f2) ((rd_T26 l0 x3_1).f3)) else (some false)) else (some false)) else (some false)))) else (none))) else (none)) else (none))) else (gangwaylaw1_LebBack.j5 kj61 l0 x3_1 t235 ((rd_T26 l0 x3_1).f0) ((rd_T26 l0 x3_1).f1) ((rd_T26 l0 x3_1).f2) ((rd_T26 l0 x3_1).f3))) = some r := by rw [if_neg (show ¬ (false = true) by decide)] at H; exact H
                           clear H
                           have H := H1
                           clear H1
                           have HC71 := Aside0.mk H
                           clear H
                           go_upto_if 138 with (fail)
                           go_cut [] (fun wc => ∃ (kq : Nat) (x9_70 : List Int), Aside0 (gangwaylaw1_LebBack.j5 kq l0 x3_1 x9_70 ((rd_T26 l0 x3_1).f0) ((rd_T26 l0 x3_1).f1) ((rd_T26 l0 x3_1).f2) ((rd_T26 l0 x3_1).f3) = some r) ∧ Aside0 (kq ≤ kj61) ∧ Aside0 (Kd.R (Kd.int .u8) 5 wc w.heap.size (fun _ => True) (.slice Ao39 t235.length co39) x9_70) ∧ Aside0 (wc.heap[gb221]? = some (.cells #[(.slice A220_0 ((rd_T26 l0 x3_1).f0).length c220_0), .int .i64 ((rd_T26 l0 x3_1).f1), .int .u64 ((rd_T26 l0 x3_1).f2), .int .i64 ((rd_T26 l0 x3_1).f3)] 26 (0, 0))) ∧ Aside0 (Below w.heap.size w wc))
                           case first =>
                            have H := HC71.out
                            clear HC71
                            by_cases c72 : (t222.length : Int) < 10
                            ·rw [if_pos c72] at H
                             have c72b0 : decide ((t222.length : Int) < 10) = true := decide_eq_true c72
                             have c72b1 : decide (t222.length < 10) = true := decide_eq_true (by omega)
                             clear c72
                             (first | rw [c72b0] | (simp only [i64_w, i32_w]; rw [c72b0]) | skip)
                             replace H := Option.bind_eq_some_iff.mp H
                             obtain ⟨t264, A730, H⟩ := H
                             replace H : (if 0 ≤ (wrap64 ((t264.length : Int) - 1)) then (if (wrap64 ((t264.length : Int) - 1)) < (t264.length : Int) then ((some (t264.set ((wrap64 ((t264.length : Int) - 1)) : Int).toNat (Go.bits .or .u8 (rd t264 (wrap64 ((t264.length : Int) - 1))) 128) : List Int)).bind fun y268 => (if y268.length < 140737488355328 then ((leb_Uint.f kj61 (y268 ++ [0]) 64).bind fun bt272 => ((gangwaylaw1_num.f bt272.2.2).bind fun t275 => (if t275 = 0 then (if bt272.1 = ((rd_T26 l0 x3_1).f2) then (if bt272.2.1 = (wrap64 ((t222.length : Int) + 1)) then (gangwaylaw1_LebBack.j5 kj61 l0 x3_1 t235 ((rd_T26 l0 x3_1).f0) ((rd_T26 l0 x3_1).f1) ((rd_T26 l0 x3_1).f2) ((rd_T26 l0 x3_1).f3)) else (some false)) else (some false)) else (some false)))) else (none))) else (none)) else (none)) = some r := H
                             have A73 := Aside0.mk A730
                             clear A730
                             obtain ⟨ji74, hji74⟩ : ∃ j_ : Int, (wrap64 ((t264.length : Int) - 1)) = j_ := ⟨_, rfl⟩
                             replace H : (if 0 ≤ (ji74) then (if (ji74) < (t264.length : Int) then ((some (t264.set ((ji74) : Int).toNat (Go.bits .or .u8 (rd t264 (ji74)) 128) : List Int)).bind fun y268 => (if y268.length < 140737488355328 then ((leb_Uint.f kj61 (y268 ++ [0]) 64).bind fun bt272 => ((gangwaylaw1_num.f bt272.2.2).bind fun t275 => (if t275 = 0 then (if bt272.1 = ((rd_T26 l0 x3_1).f2) then (if bt272.2.1 = (wrap64 ((t222.length : Int) + 1)) then (gangwaylaw1_LebBack.j5 kj61 l0 x3_1 t235 ((rd_T26 l0 x3_1).f0) ((rd_T26 l0 x3_1).f1) ((rd_T26 l0 x3_1).f2) ((rd_T26 l0 x3_1).f3)) else (some false)) else (some false)) else (some false)))) else (none))) else (none)) else (none)) = some r := by first | (rw [hji74] at H; exact H) | (simp only [hji74] at H ⊢; exact H)
                             (try rw [hji74] at A73)
                             have hji74w : (IntKind.i64.wrap ((t264.length : Int) - 1)) = ji74 := (i64_w _).trans hji74
                             by_cases c75 : 0 ≤ (ji74)
                             ·rw [if_pos c75] at H
                              have c75b0 : decide (0 ≤ (ji74)) = true := decide_eq_true c75
                              clear c75
                              by_cases c76 : (ji74) < (t264.length : Int)
                              ·rw [if_pos c76] at H
                               have c76b0 : decide ((ji74) < (t264.length : Int)) = true := decide_eq_true c76
                               clear c76
                               obtain ⟨y268, hy268⟩ : ∃ y_ : List Int, y_ = (t264.set ((ji74) : Int).toNat (Go.bits .or .u8 (rd t264 (ji74)) 128)) := ⟨_, rfl⟩
                               replace H : (if y268.length < 140737488355328 then ((leb_Uint.f kj61 (y268 ++ [0]) 64).bind fun bt272 => ((gangwaylaw1_num.f bt272.2.2).bind fun t275 => (if t275 = 0 then (if bt272.1 = ((rd_T26 l0 x3_1).f2) then (if bt272.2.1 = (wrap64 ((t222.length : Int) + 1)) then (gangwaylaw1_LebBack.j5 kj61 l0 x3_1 t235 ((rd_T26 l0 x3_1).f0) ((rd_T26 l0 x3_1).f1) ((rd_T26 l0 x3_1).f2) ((rd_T26 l0 x3_1).f3)) else (some false)) else (some false)) else (some false)))) else (none)) = some r := by first | (rw [hy268]; with_reducible exact H) | (have H2_ := (Option.bind_some _ _).symm.trans H; rw [hy268]; with_reducible exact H2_) | (have H2_ := (Option.bind_some _ _).symm.trans H; with_reducible exact H2_) | with_reducible exact H | (rw [hy268]; exact H) | exact H
                               have Ny268 := Aside0.mk hy268
                               clear hy268
                               by_cases c78 : y268.length < 140737488355328
                               ·rw [if_pos c78] at H
                                have LMc78 := Aside0.mk c78
                                clear c78
                                obtain ⟨y269, hy269⟩ : ∃ y_ : List Int, y_ = (y268 ++ [0]) := ⟨_, rfl⟩
                                replace H : ((leb_Uint.f kj61 y269 64).bind fun bt272 => ((gangwaylaw1_num.f bt272.2.2).bind fun t275 => (if t275 = 0 then (if bt272.1 = ((rd_T26 l0 x3_1).f2) then (if bt272.2.1 = (wrap64 ((t222.length : Int) + 1)) then (gangwaylaw1_LebBack.j5 kj61 l0 x3_1 t235 ((rd_T26 l0 x3_1).f0) ((rd_T26 l0 x3_1).f1) ((rd_T26 l0 x3_1).f2) ((rd_T26 l0 x3_1).f3)) else (some false)) else (some false)) else (some false)))) = some r := by first | (rw [hy269]; with_reducible exact H) | (have H2_ := (Option.bind_some _ _).symm.trans H; rw [hy269]; with_reducible exact H2_) | (have H2_ := (Option.bind_some _ _).symm.trans H; with_reducible exact H2_) | with_reducible exact H | (rw [hy269]; exact H) | exact H
                                have Ny269 := Aside0.mk hy269
                                clear hy269
                                replace H := Option.bind_eq_some_iff.mp H
                                obtain ⟨⟨t272, t273, t274⟩, A790, H⟩ := H
                                replace H : ((gangwaylaw1_num.f t274).bind fun t275 => (if t275 = 0 then (if t272 = ((rd_T26 l0 x3_1).f2) then (if t273 = (wrap64 ((t222.length : Int) + 1)) then (gangwaylaw1_LebBack.j5 kj61 l0 x3_1 t235 ((rd_T26 l0 x3_1).f0) ((rd_T26 l0 x3_1).f1) ((rd_T26 l0 x3_1).f2) ((rd_T26 l0 x3_1).f3)) else (some false)) else (some false)) else (some false))) = some r := H
                                have A79 := Aside0.mk A790
                                clear A790
                                replace H := Option.bind_eq_some_iff.mp H
                                obtain ⟨t275, A800, H⟩ := H
                                replace H : (if t275 = 0 then (if t272 = ((rd_T26 l0 x3_1).f2) then (if t273 = (wrap64 ((t222.length : Int) + 1)) then (gangwaylaw1_LebBack.j5 kj61 l0 x3_1 t235 ((rd_T26 l0 x3_1).f0) ((rd_T26 l0 x3_1).f1) ((rd_T26 l0 x3_1).f2) ((rd_T26 l0 x3_1).f3)) else (some false)) else (some false)) else (some false)) = some r := H
                                have A80 := Aside0.mk A800
                                clear A800
                                by_cases c81 : t275 = 0
                                ·rw [if_pos c81] at H
                                 have c81b0 : (t275 == 0) = true := beq_iff_eq.mpr c81
                                 have c81b1 : (t275 != 0) = false := bne_eq_false_iff_eq.mpr c81
                                 clear c81
                                 by_cases c82 : t272 = ((rd_T26 l0 x3_1).f2)
                                 ·rw [if_pos c82] at H
                                  have c82b0 : (t272 == ((rd_T26 l0 x3_1).f2)) = true := beq_iff_eq.mpr c82
                                  have c82b1 : (t272 != ((rd_T26 l0 x3_1).f2)) = false := bne_eq_false_iff_eq.mpr c82
                                  clear c82
                                  by_cases c83 : t273 = (wrap64 ((t222.length : Int) + 1))
                                  ·rw [if_pos c83] at H
                                   have c83b0 : (t273 == (wrap64 ((t222.length : Int) + 1))) = true := beq_iff_eq.mpr c83
                                   have c83b1 : (t273 != (wrap64 ((t222.length : Int) + 1))) = false := bne_eq_false_iff_eq.mpr c83
                                   clear c83
                                   have H' := Aside0.mk H
                                   clear H
                                   go_wp2_with (first | ((with_reducible refine gate_callee (f := 20) rfl ?_); refine goesL_ (some 140) rfl rfl Try.func20 (by kernel_rfl) rfl #[.slice Ao16 t222.length co16] rfl (by (try simp only [List.map_toArray, List.map_cons, List.map_nil]); first | done | rfl | (simp only [List.length_drop, List.length_take]; rfl)) ?_; (with_reducible refine (gangwayref0_CopyBytes.calls kj61 _ _ t222 t264 _ ?side1 ?side2 A73.out).mono ?_); (case side1 => repeat (first | exact (Kd.R_reads' HO_5.out).2.2 | (with_reducible refine Kd.C_alloc ?_ _) | (with_reducible refine Kd.C_drewN ?_ _) | (with_reducible refine Kd.C_drew ?_))); (case side2 => exact (Kd.R_reads' HO_5.out).2.1); rintro e w84 ⟨v265, rfl, ho0, hb⟩; refine ⟨_, rfl, ?_⟩; have n0_ := Aside0.mk (Kd.R_elder' (by (with_reducible repeat (first | apply Kd.R_alloc | apply Kd.R_drewN | apply Kd.R_drew)); exact HO_5.out) (Kd.R_base ho0) hb); have n1_ := Aside0.mk (Kd.R_elder' (by (with_reducible repeat (first | apply Kd.R_alloc | apply Kd.R_drewN | apply Kd.R_drew)); exact HO_9.out) (Kd.R_base ho0) hb); have n2_ := Aside0.mk (Kd.R_lower (Kd.R_new' (Kd.R_new' ho0 (Kd.R_lt (by (with_reducible repeat (first | apply Kd.R_alloc | apply Kd.R_drewN | apply Kd.R_drew)); exact HO_5.out))) (Kd.R_lt (by (with_reducible repeat (first | apply Kd.R_alloc | apply Kd.R_drewN | apply Kd.R_drew)); exact HO_9.out))) (below_size (by repeat (first | (with_reducible first | exact HB.out | apply below_alloc | apply pw_below_drewN | apply below_drew1 | refine below_set ?_ GE221.out) | exact HB.out)))); have n3_ := Aside0.mk (blk_below (g := gb221) (o := .cells #[.slice A220_0 ((rd_T26 l0 x3_1).f0).length c220_0, .int .i64 ((rd_T26 l0 x3_1).f1), .int .u64 ((rd_T26 l0 x3_1).f2), .int .i64 ((rd_T26 l0 x3_1).f3)] 26 (0, 0)) (by (with_reducible repeat (first | refine blk_drewN ?_ _ | refine blk_drew ?_ | refine blk_alloc ?_ _)); exact BK221.out) hb); have n4_ := Aside0.mk (below_step (by repeat (first | (with_reducible first | exact HB.out | apply below_alloc | apply pw_below_drewN | apply below_drew1 | refine below_set ?_ GE221.out) | exact HB.out)) hb); clear HO_5; clear HO_9; clear BK221; clear HB; have HO_5 := n0_; have HO_9 := n1_; have HO266 := n2_; have BK221 := n3_; have HB := n4_; clear n0_ n1_ n2_ n3_ n4_; (try clear hb); (try clear hb2); (try clear hk); (try clear hi); (try clear ho0); obtain ⟨Ao85, co85, eo85⟩ := Kd.R_slice HO266.out; subst eo85; have p267 : 0 ≤ ((ji74) : Int) := of_decide_eq_true (by first | (with_reducible assumption) | assumption); have q267 : (ji74) < (t264.length : Int) := of_decide_eq_true (by first | (with_reducible assumption) | assumption); obtain ⟨ad267, e267, hx267_0⟩ := Kd.at_int (Kd.R_reads' HO266.out).2.2 (ji74) p267 q267; cases e267; replace p267 := eq_true p267; replace q267 := eq_true q267; have p77 : 0 ≤ ((ji74) : Int) := of_decide_eq_true (by first | (with_reducible assumption) | assumption); have q77 : ((ji74) : Int) < ((t264.length : Int) : Int) := of_decide_eq_true (by first | (with_reducible assumption) | assumption); obtain ⟨go77, co77, eo77, gb77, gl77, cl77, HG77⟩ := Kd.R_form HO266.out (by omega); (first | cases eo77 | (injection eo77 with ea_ en_ ec_; (first | subst ea_ | (injection ea_ with ea_; subst ea_)); subst ec_; clear en_)); have GB77 := Aside0.mk gb77; have GG77 := Aside0.mk HG77; clear gb77 gl77 HG77; (first | simp only [add_plain] at hx267_0 | skip); obtain ⟨hx77_0, hf77_0⟩ := Kd.R_celln 0 HO266.out ((ji74) : Int) p77 q77; replace p77 := eq_true p77; replace q77 := eq_true q77; have n_ := Aside0.mk (show Kd.R _ _ _ _ ((fun k_ => some k_ ≠ (.slice Ao16 t222.length co16 : Value).ownBlock ∧ some k_ ≠ (.slice Ao39 t235.length co39 : Value).ownBlock)) _ _ from by first | exact (Kd.R_mono HO266.out (fun k_ hk => ⟨hk.1.2, hk.2⟩)) | exact HO266.out); clear HO266; have HO266 := n_; clear n_; obtain ⟨hy86_, hz86_⟩ := Kd.R_celln 0 HO266.out ((ji74) : Int) (of_decide_eq_true (by first | (with_reducible assumption) | assumption)) (of_decide_eq_true (by first | (with_reducible assumption) | assumption)); have HP86 := Kd.R_putg HO266.out ((ji74) : Int) (Go.bits .or .u8 (rd t264 (ji74)) 128)) | ((with_reducible refine gate_store (t := 5) (p := 152) rfl ?_); refine store_event (t := 5) (p := 152) (v := ?vo_w87) (w1 := (w84.setCell ⟨go77, ((ji74) : Int).toNat, none⟩ (.int .u8 (Go.bits .or .u8 (rd t264 (ji74)) 128)))) ?hg ?ho ?hn ?hr ?_; (case ho => rfl); (case hg => rfl); (case hn => rfl); (case hr => first | (go_simp; done) | (go_simp; rfl)); intro w87 hw; have hg : w84.grownBy w87 (some go77) := (by rw [hw]; exact HP86.2); have hp_ : Kd.R (Kd.int .u8) 5 w87 w.heap.size (fun k_ => some k_ ≠ (.slice Ao16 t222.length co16 : Value).ownBlock ∧ some k_ ≠ (.slice Ao39 t235.length co39 : Value).ownBlock) (.slice (some ⟨go77, 0, none⟩) t264.length co85) y268 := (by rw [hw, Ny268.out]; exact HP86.1); clear HP86; have n0_ := Aside0.mk (Kd.R_after (v := (.slice (some ⟨go77, 0, none⟩) t264.length co85)) (v1 := (.slice (some ⟨go77, 0, none⟩) t264.length co85)) (ok := (fun k_ => some k_ ≠ (.slice Ao39 t235.length co39 : Value).ownBlock)) (by (with_reducible repeat (first | apply Kd.R_alloc | apply Kd.R_drewN | apply Kd.R_drew)); exact HO_5.out) hg (.inl rfl)); have n1_ := Aside0.mk (Kd.R_after (v := (.slice (some ⟨go77, 0, none⟩) t264.length co85)) (v1 := (.slice (some ⟨go77, 0, none⟩) t264.length co85)) (ok := (fun k_ => some k_ ≠ (.slice Ao16 t222.length co16 : Value).ownBlock)) (by (with_reducible repeat (first | apply Kd.R_alloc | apply Kd.R_drewN | apply Kd.R_drew)); exact HO_9.out) hg (.inl rfl)); have n2_ := Aside0.mk (blk_grown (g := gb221) (o := .cells #[.slice A220_0 ((rd_T26 l0 x3_1).f0).length c220_0, .int .i64 ((rd_T26 l0 x3_1).f1), .int .u64 ((rd_T26 l0 x3_1).f2), .int .i64 ((rd_T26 l0 x3_1).f3)] 26 (0, 0)) (by (with_reducible repeat (first | refine blk_drewN ?_ _ | refine blk_drew ?_ | refine blk_alloc ?_ _)); exact BK221.out) hg (Kd.R_ne HO266.out BK221.out (by decide))); have n3_ := Aside0.mk (hp_); have n4_ := Aside0.mk ((by rw [hw]; exact below_set (HB.out) GB77.out : Below w.heap.size w w87)); clear HO_5; clear HO_9; clear BK221; clear HO266; clear HB; have HO_5 := n0_; have HO_9 := n1_; have BK221 := n2_; have HO266 := n3_; have HB := n4_; clear n0_ n1_ n2_ n3_ n4_; clear hg hw hp_) | ((with_reducible refine gate_builtin (b := .append) (xs := #[.tmp 154, .tmp 155]) rfl ?_); (try (refine gate_guard (by rfl) ?_; dsimp only)); at_builtin; refine Kd.R_append (Kd.int .u8) (w0 := w) w.heap.size rfl (.tmp 154) (.tmp 155) 23 5 (.int .u8 0) 1 rfl Try.underlying23 info5 rfl (by decide) (by omega) (.slice (some ⟨go77, 0, none⟩) t264.length co85) y268 0 [.int .u8 0] (fun k_ => some k_ ≠ (.slice Ao16 t222.length co16 : Value).ownBlock ∧ some k_ ≠ (.slice Ao39 t235.length co39 : Value).ownBlock) (fun _ => False) rfl rfl ?aP (fun _ hk => hk.elim) ?aF ?aO ?aB ?aS ?aL ?_; (case aP => exact rfl); (case aB => exact (by repeat (first | (with_reducible first | exact HB.out | apply below_alloc | apply pw_below_drewN | apply below_drew1 | refine below_set ?_ GE221.out) | exact HB.out))); (case aF => exact (fun k_ hk => ⟨Kd.fresh' (Kd.R_lt (by (with_reducible repeat (first | apply Kd.R_alloc | apply Kd.R_drewN | apply Kd.R_drew)); exact HO_5.out)) k_ hk, Kd.fresh' (Kd.R_lt (by (with_reducible repeat (first | apply Kd.R_alloc | apply Kd.R_drewN | apply Kd.R_drew)); exact HO_9.out)) k_ hk⟩)); (case aO => exact (by (with_reducible repeat (first | apply Kd.R_alloc | apply Kd.R_drewN | apply Kd.R_drew)); exact HO266.out)); (case aS => exact (below_size (by repeat (first | (with_reducible first | exact HB.out | apply below_alloc | apply pw_below_drewN | apply below_drew1 | refine below_set ?_ GE221.out) | exact HB.out)))); (case aL => have := LMc78.out; omega); intro v270 w88 ho hb hg hat; rw [← Ny269.out] at ho; have n0_ := Aside0.mk (Kd.R_after (ok := (fun k_ => some k_ ≠ (.slice Ao39 t235.length co39 : Value).ownBlock)) (by (with_reducible repeat (first | apply Kd.R_alloc | apply Kd.R_drewN | apply Kd.R_drew)); exact HO_5.out) hg hat); have n1_ := Aside0.mk (Kd.R_after (ok := (fun k_ => some k_ ≠ (.slice Ao16 t222.length co16 : Value).ownBlock)) (by (with_reducible repeat (first | apply Kd.R_alloc | apply Kd.R_drewN | apply Kd.R_drew)); exact HO_9.out) hg hat); have n2_ := Aside0.mk (blk_grown (g := gb221) (o := .cells #[.slice A220_0 ((rd_T26 l0 x3_1).f0).length c220_0, .int .i64 ((rd_T26 l0 x3_1).f1), .int .u64 ((rd_T26 l0 x3_1).f2), .int .i64 ((rd_T26 l0 x3_1).f3)] 26 (0, 0)) (by (with_reducible repeat (first | refine blk_drewN ?_ _ | refine blk_drew ?_ | refine blk_alloc ?_ _)); exact BK221.out) hg (Kd.R_ne HO266.out BK221.out (by decide))); have n3_ := Aside0.mk (hb); have n4_ := Aside0.mk (ho); clear HO_5; clear HO_9; clear BK221; clear HB; clear HO266; have HO_5 := n0_; have HO_9 := n1_; have BK221 := n2_; have HB := n3_; have HO271 := n4_; clear n0_ n1_ n2_ n3_ n4_; clear ho hb hg hat; obtain ⟨Ao89, co89, eo89⟩ := Kd.R_slice HO271.out; subst eo89) | ((with_reducible refine gate_callee (f := 9) rfl ?_); refine goesL_ (some 157) rfl rfl Try.func9 (by kernel_rfl) rfl #[.slice Ao89 y269.length co89, .int .i64 64] rfl (by (try simp only [List.map_toArray, List.map_cons, List.map_nil]); first | done | rfl | (simp only [List.length_drop, List.length_take]; rfl)) ?_; (with_reducible refine (leb_Uint.calls kj61 _ _ y269 64 t272 t273 t274 _ ?side1 ?side2 A79.out).mono ?_); (case side1 => repeat (first | exact (Kd.R_reads' HO271.out).2.2 | (with_reducible refine Kd.C_alloc ?_ _) | (with_reducible refine Kd.C_drewN ?_ _) | (with_reducible refine Kd.C_drew ?_))); (case side2 => exact (Kd.R_reads' HO271.out).2.1); rintro e w90 ⟨rfl, hb⟩; refine ⟨_, rfl, ?_⟩; have n0_ := Aside0.mk (Kd.R_below (by (with_reducible repeat (first | apply Kd.R_alloc | apply Kd.R_drewN | apply Kd.R_drew)); exact HO_5.out) hb); have n1_ := Aside0.mk (Kd.R_below (by (with_reducible repeat (first | apply Kd.R_alloc | apply Kd.R_drewN | apply Kd.R_drew)); exact HO_9.out) hb); have n2_ := Aside0.mk (Kd.R_below (by (with_reducible repeat (first | apply Kd.R_alloc | apply Kd.R_drewN | apply Kd.R_drew)); exact HO271.out) hb); have n3_ := Aside0.mk (blk_below (g := gb221) (o := .cells #[.slice A220_0 ((rd_T26 l0 x3_1).f0).length c220_0, .int .i64 ((rd_T26 l0 x3_1).f1), .int .u64 ((rd_T26 l0 x3_1).f2), .int .i64 ((rd_T26 l0 x3_1).f3)] 26 (0, 0)) (by (with_reducible repeat (first | refine blk_drewN ?_ _ | refine blk_drew ?_ | refine blk_alloc ?_ _)); exact BK221.out) hb); have n4_ := Aside0.mk (below_step (by repeat (first | (with_reducible first | exact HB.out | apply below_alloc | apply pw_below_drewN | apply below_drew1 | refine below_set ?_ GE221.out) | exact HB.out)) hb); clear HO_5; clear HO_9; clear HO271; clear BK221; clear HB; have HO_5 := n0_; have HO_9 := n1_; have HO271 := n2_; have BK221 := n3_; have HB := n4_; clear n0_ n1_ n2_ n3_ n4_; (try clear hb); (try clear hb2); (try clear hk); (try clear hi)) | ((with_reducible refine gate_callee (f := 11) rfl ?_); refine goesL_ (some 162) rfl rfl Try.func11 (by kernel_rfl) rfl #[.int .i64 t274] rfl (by (try simp only [List.map_toArray, List.map_cons, List.map_nil]); first | done | rfl | (simp only [List.length_drop, List.length_take]; rfl)) ?_; (with_reducible refine (gangwaylaw1_num.calls t274 t275 _ A80.out).mono ?_); rintro e w' ⟨rfl, ⟨nd, rfl⟩⟩; refine ⟨_, rfl, ?_⟩; have hcz91_0 : w90.cell? ⟨gb221, 0, none⟩ = some (.slice A220_0 ((rd_T26 l0 x3_1).f0).length c220_0) := (blk_cell BK221.out 0).trans rfl; have hcz91_1 : w90.cell? ⟨gb221, 1, none⟩ = some (.int .i64 ((rd_T26 l0 x3_1).f1)) := (blk_cell BK221.out 1).trans rfl; have hcz91_2 : w90.cell? ⟨gb221, 2, none⟩ = some (.int .u64 ((rd_T26 l0 x3_1).f2)) := (blk_cell BK221.out 2).trans rfl; have hcz91_3 : w90.cell? ⟨gb221, 3, none⟩ = some (.int .i64 ((rd_T26 l0 x3_1).f3)) := (blk_cell BK221.out 3).trans rfl; have hfz91_0 := blk_frozen BK221.out 0; have hfz91_1 := blk_frozen BK221.out 1; have hfz91_2 := blk_frozen BK221.out 2; have hfz91_3 := blk_frozen BK221.out 3))
                                   go_meet
                                   case rel => exact ⟨_, (t235), H', ⟨by have := HK1.out; have := HJ1.out; have := HJ10.out; have := HJ34.out; have := HJ61.out; first | omega | exact Nat.le_refl _⟩, ⟨by (with_reducible repeat (first | apply Kd.R_alloc | apply Kd.R_drewN | apply Kd.R_drew)); exact Kd.R_mono HO_9.out (fun _ hk => trivial)⟩, ⟨by (with_reducible repeat (first | refine blk_drewN ?_ _ | refine blk_drew ?_ | refine blk_alloc ?_ _)); exact BK221.out⟩, ⟨by repeat (first | (with_reducible first | exact HB.out | apply below_alloc | apply pw_below_drewN | apply below_drew1 | refine below_set ?_ GE221.out) | exact HB.out)⟩⟩
                                  ·rw [if_neg c83] at H
                                   have c83b0 : (t273 == (wrap64 ((t222.length : Int) + 1))) = false := beq_eq_false_iff_ne.mpr c83
                                   have c83b1 : (t273 != (wrap64 ((t222.length : Int) + 1))) = true := bne_iff_ne.mpr c83
                                   obtain rfl := Option.some.inj H
                                   go_wp2_with (first | ((with_reducible refine gate_callee (f := 20) rfl ?_); refine goesL_ (some 140) rfl rfl Try.func20 (by kernel_rfl) rfl #[.slice Ao16 t222.length co16] rfl (by (try simp only [List.map_toArray, List.map_cons, List.map_nil]); first | done | rfl | (simp only [List.length_drop, List.length_take]; rfl)) ?_; (with_reducible refine (gangwayref0_CopyBytes.calls kj61 _ _ t222 t264 _ ?side1 ?side2 A73.out).mono ?_); (case side1 => repeat (first | exact (Kd.R_reads' HO_5.out).2.2 | (with_reducible refine Kd.C_alloc ?_ _) | (with_reducible refine Kd.C_drewN ?_ _) | (with_reducible refine Kd.C_drew ?_))); (case side2 => exact (Kd.R_reads' HO_5.out).2.1); rintro e w92 ⟨v265, rfl, ho0, hb⟩; refine ⟨_, rfl, ?_⟩; have n0_ := Aside0.mk (Kd.R_elder' (by (with_reducible repeat (first | apply Kd.R_alloc | apply Kd.R_drewN | apply Kd.R_drew)); exact HO_5.out) (Kd.R_base ho0) hb); have n1_ := Aside0.mk (Kd.R_elder' (by (with_reducible repeat (first | apply Kd.R_alloc | apply Kd.R_drewN | apply Kd.R_drew)); exact HO_9.out) (Kd.R_base ho0) hb); have n2_ := Aside0.mk (Kd.R_lower (Kd.R_new' (Kd.R_new' ho0 (Kd.R_lt (by (with_reducible repeat (first | apply Kd.R_alloc | apply Kd.R_drewN | apply Kd.R_drew)); exact HO_5.out))) (Kd.R_lt (by (with_reducible repeat (first | apply Kd.R_alloc | apply Kd.R_drewN | apply Kd.R_drew)); exact HO_9.out))) (below_size (by repeat (first | (with_reducible first | exact HB.out | apply below_alloc | apply pw_below_drewN | apply below_drew1 | refine below_set ?_ GE221.out) | exact HB.out)))); have n3_ := Aside0.mk (blk_below (g := gb221) (o := .cells #[.slice A220_0 ((rd_T26 l0 x3_1).f0).length c220_0, .int .i64 ((rd_T26 l0 x3_1).f1), .int .u64 ((rd_T26 l0 x3_1).f2), .int .i64 ((rd_T26 l0 x3_1).f3)] 26 (0, 0)) (by (with_reducible repeat (first | refine blk_drewN ?_ _ | refine blk_drew ?_ | refine blk_alloc ?_ _)); exact BK221.out) hb); have n4_ := Aside0.mk (below_step (by repeat (first | (with_reducible first | exact HB.out | apply below_alloc | apply pw_below_drewN | apply below_drew1 | refine below_set ?_ GE221.out) | exact HB.out)) hb); clear HO_5; clear HO_9; clear BK221; clear HB; have HO_5 := n0_; have HO_9 := n1_; have HO266 := n2_; have BK221 := n3_; have HB := n4_; clear n0_ n1_ n2_ n3_ n4_; (try clear hb); (try clear hb2); (try clear hk); (try clear hi); (try clear ho0); obtain ⟨Ao93, co93, eo93⟩ := Kd.R_slice HO266.out; subst eo93; have p267 : 0 ≤ ((ji74) : Int) := of_decide_eq_true (by first | (with_reducible assumption) | assumption); have q267 : (ji74) < (t264.length : Int) := of_decide_eq_true (by first | (with_reducible assumption) | assumption); obtain ⟨ad267, e267, hx267_0⟩ := Kd.at_int (Kd.R_reads' HO266.out).2.2 (ji74) p267 q267; cases e267; replace p267 := eq_true p267; replace q267 := eq_true q267; have p77 : 0 ≤ ((ji74) : Int) := of_decide_eq_true (by first | (with_reducible assumption) | assumption); have q77 : ((ji74) : Int) < ((t264.length : Int) : Int) := of_decide_eq_true (by first | (with_reducible assumption) | assumption); obtain ⟨go77, co77, eo77, gb77, gl77, cl77, HG77⟩ := Kd.R_form HO266.out (by omega); (first | cases eo77 | (injection eo77 with ea_ en_ ec_; (first | subst ea_ | (injection ea_ with ea_; subst ea_)); subst ec_; clear en_)); have GB77 := Aside0.mk gb77; have GG77 := Aside0.mk HG77; clear gb77 gl77 HG77; (first | simp only [add_plain] at hx267_0 | skip); obtain ⟨hx77_0, hf77_0⟩ := Kd.R_celln 0 HO266.out ((ji74) : Int) p77 q77; replace p77 := eq_true p77; replace q77 := eq_true q77; have n_ := Aside0.mk (show Kd.R _ _ _ _ ((fun k_ => some k_ ≠ (.slice Ao16 t222.length co16 : Value).ownBlock ∧ some k_ ≠ (.slice Ao39 t235.length co39 : Value).ownBlock)) _ _ from by first | exact (Kd.R_mono HO266.out (fun k_ hk => ⟨hk.1.2, hk.2⟩)) | exact HO266.out); clear HO266; have HO266 := n_; clear n_; obtain ⟨hy94_, hz94_⟩ := Kd.R_celln 0 HO266.out ((ji74) : Int) (of_decide_eq_true (by first | (with_reducible assumption) | assumption)) (of_decide_eq_true (by first | (with_reducible assumption) | assumption)); have HP94 := Kd.R_putg HO266.out ((ji74) : Int) (Go.bits .or .u8 (rd t264 (ji74)) 128)) | ((with_reducible refine gate_store (t := 5) (p := 152) rfl ?_); refine store_event (t := 5) (p := 152) (v := ?vo_w95) (w1 := (w92.setCell ⟨go77, ((ji74) : Int).toNat, none⟩ (.int .u8 (Go.bits .or .u8 (rd t264 (ji74)) 128)))) ?hg ?ho ?hn ?hr ?_; (case ho => rfl); (case hg => rfl); (case hn => rfl); (case hr => first | (go_simp; done) | (go_simp; rfl)); intro w95 hw; have hg : w92.grownBy w95 (some go77) := (by rw [hw]; exact HP94.2); have hp_ : Kd.R (Kd.int .u8) 5 w95 w.heap.size (fun k_ => some k_ ≠ (.slice Ao16 t222.length co16 : Value).ownBlock ∧ some k_ ≠ (.slice Ao39 t235.length co39 : Value).ownBlock) (.slice (some ⟨go77, 0, none⟩) t264.length co93) y268 := (by rw [hw, Ny268.out]; exact HP94.1); clear HP94; have n0_ := Aside0.mk (Kd.R_after (v := (.slice (some ⟨go77, 0, none⟩) t264.length co93)) (v1 := (.slice (some ⟨go77, 0, none⟩) t264.length co93)) (ok := (fun k_ => some k_ ≠ (.slice Ao39 t235.length co39 : Value).ownBlock)) (by (with_reducible repeat (first | apply Kd.R_alloc | apply Kd.R_drewN | apply Kd.R_drew)); exact HO_5.out) hg (.inl rfl)); have n1_ := Aside0.mk (Kd.R_after (v := (.slice (some ⟨go77, 0, none⟩) t264.length co93)) (v1 := (.slice (some ⟨go77, 0, none⟩) t264.length co93)) (ok := (fun k_ => some k_ ≠ (.slice Ao16 t222.length co16 : Value).ownBlock)) (by (with_reducible repeat (first | apply Kd.R_alloc | apply Kd.R_drewN | apply Kd.R_drew)); exact HO_9.out) hg (.inl rfl)); have n2_ := Aside0.mk (blk_grown (g := gb221) (o := .cells #[.slice A220_0 ((rd_T26 l0 x3_1).f0).length c220_0, .int .i64 ((rd_T26 l0 x3_1).f1), .int .u64 ((rd_T26 l0 x3_1).f2), .int .i64 ((rd_T26 l0 x3_1).f3)] 26 (0, 0)) (by (with_reducible repeat (first | refine blk_drewN ?_ _ | refine blk_drew ?_ | refine blk_alloc ?_ _)); exact BK221.out) hg (Kd.R_ne HO266.out BK221.out (by decide))); have n3_ := Aside0.mk (hp_); have n4_ := Aside0.mk ((by rw [hw]; exact below_set (HB.out) GB77.out : Below w.heap.size w w95)); clear HO_5; clear HO_9; clear BK221; clear HO266; clear HB; have HO_5 := n0_; have HO_9 := n1_; have BK221 := n2_; have HO266 := n3_; have HB := n4_; clear n0_ n1_ n2_ n3_ n4_; clear hg hw hp_) | ((with_reducible refine gate_builtin (b := .append) (xs := #[.tmp 154, .tmp 155]) rfl ?_); (try (refine gate_guard (by rfl) ?_; dsimp only)); at_builtin; refine Kd.R_append (Kd.int .u8) (w0 := w) w.heap.size rfl (.tmp 154) (.tmp 155) 23 5 (.int .u8 0) 1 rfl Try.underlying23 info5 rfl (by decide) (by omega) (.slice (some ⟨go77, 0, none⟩) t264.length co93) y268 0 [.int .u8 0] (fun k_ => some k_ ≠ (.slice Ao16 t222.length co16 : Value).ownBlock ∧ some k_ ≠ (.slice Ao39 t235.length co39 : Value).ownBlock) (fun _ => False) rfl rfl ?aP (fun _ hk => hk.elim) ?aF ?aO ?aB ?aS ?aL ?_; (case aP => exact rfl); (case aB => exact (by repeat (first | (with_reducible first | exact HB.out | apply below_alloc | apply pw_below_drewN | apply below_drew1 | refine below_set ?_ GE221.out) | exact HB.out))); (case aF => exact (fun k_ hk => ⟨Kd.fresh' (Kd.R_lt (by (with_reducible repeat (first | apply Kd.R_alloc | apply Kd.R_drewN | apply Kd.R_drew)); exact HO_5.out)) k_ hk, Kd.fresh' (Kd.R_lt (by (with_reducible repeat (first | apply Kd.R_alloc | apply Kd.R_drewN | apply Kd.R_drew)); exact HO_9.out)) k_ hk⟩)); (case aO => exact (by (with_reducible repeat (first | apply Kd.R_alloc | apply Kd.R_drewN | apply Kd.R_drew)); exact HO266.out)); (case aS => exact (below_size (by repeat (first | (with_reducible first | exact HB.out | apply below_alloc | apply pw_below_drewN | apply below_drew1 | refine below_set ?_ GE221.out) | exact HB.out)))); (case aL => have := LMc78.out; omega); intro v270 w96 ho hb hg hat; rw [← Ny269.out] at ho; have n0_ := Aside0.mk (Kd.R_after (ok := (fun k_ => some k_ ≠ (.slice Ao39 t235.length co39 : Value).ownBlock)) (by (with_reducible repeat (first | apply Kd.R_alloc | apply Kd.R_drewN | apply Kd.R_drew)); exact HO_5.out) hg hat); have n1_ := Aside0.mk (Kd.R_after (ok := (fun k_ => some k_ ≠ (.slice Ao16 t222.length co16 : Value).ownBlock)) (by (with_reducible repeat (first | apply Kd.R_alloc | apply Kd.R_drewN | apply Kd.R_drew)); exact HO_9.out) hg hat); have n2_ := Aside0.mk (blk_grown (g := gb221) (o := .cells #[.slice A220_0 ((rd_T26 l0 x3_1).f0).length c220_0, .int .i64 ((rd_T26 l0 x3_1).f1), .int .u64 ((rd_T26 l0 x3_1).f2), .int .i64 ((rd_T26 l0 x3_1).f3)] 26 (0, 0)) (by (with_reducible repeat (first | refine blk_drewN ?_ _ | refine blk_drew ?_ | refine blk_alloc ?_ _)); exact BK221.out) hg (Kd.R_ne HO266.out BK221.out (by decide))); have n3_ := Aside0.mk (hb); have n4_ := Aside0.mk (ho); clear HO_5; clear HO_9; clear BK221; clear HB; clear HO266; have HO_5 := n0_; have HO_9 := n1_; have BK221 := n2_; have HB := n3_; have HO271 := n4_; clear n0_ n1_ n2_ n3_ n4_; clear ho hb hg hat; obtain ⟨Ao97, co97, eo97⟩ := Kd.R_slice HO271.out; subst eo97) | ((with_reducible refine gate_callee (f := 9) rfl ?_); refine goesL_ (some 157) rfl rfl Try.func9 (by kernel_rfl) rfl #[.slice Ao97 y269.length co97, .int .i64 64] rfl (by (try simp only [List.map_toArray, List.map_cons, List.map_nil]); first | done | rfl | (simp only [List.length_drop, List.length_take]; rfl)) ?_; (with_reducible refine (leb_Uint.calls kj61 _ _ y269 64 t272 t273 t274 _ ?side1 ?side2 A79.out).mono ?_); (case side1 => repeat (first | exact (Kd.R_reads' HO271.out).2.2 | (with_reducible refine Kd.C_alloc ?_ _) | (with_reducible refine Kd.C_drewN ?_ _) | (with_reducible refine Kd.C_drew ?_))); (case side2 => exact (Kd.R_reads' HO271.out).2.1); rintro e w98 ⟨rfl, hb⟩; refine ⟨_, rfl, ?_⟩; have n0_ := Aside0.mk (Kd.R_below (by (with_reducible repeat (first | apply Kd.R_alloc | apply Kd.R_drewN | apply Kd.R_drew)); exact HO_5.out) hb); have n1_ := Aside0.mk (Kd.R_below (by (with_reducible repeat (first | apply Kd.R_alloc | apply Kd.R_drewN | apply Kd.R_drew)); exact HO_9.out) hb); have n2_ := Aside0.mk (Kd.R_below (by (with_reducible repeat (first | apply Kd.R_alloc | apply Kd.R_drewN | apply Kd.R_drew)); exact HO271.out) hb); have n3_ := Aside0.mk (blk_below (g := gb221) (o := .cells #[.slice A220_0 ((rd_T26 l0 x3_1).f0).length c220_0, .int .i64 ((rd_T26 l0 x3_1).f1), .int .u64 ((rd_T26 l0 x3_1).f2), .int .i64 ((rd_T26 l0 x3_1).f3)] 26 (0, 0)) (by (with_reducible repeat (first | refine blk_drewN ?_ _ | refine blk_drew ?_ | refine blk_alloc ?_ _)); exact BK221.out) hb); have n4_ := Aside0.mk (below_step (by repeat (first | (with_reducible first | exact HB.out | apply below_alloc | apply pw_below_drewN | apply below_drew1 | refine below_set ?_ GE221.out) | exact HB.out)) hb); clear HO_5; clear HO_9; clear HO271; clear BK221; clear HB; have HO_5 := n0_; have HO_9 := n1_; have HO271 := n2_; have BK221 := n3_; have HB := n4_; clear n0_ n1_ n2_ n3_ n4_; (try clear hb); (try clear hb2); (try clear hk); (try clear hi)) | ((with_reducible refine gate_callee (f := 11) rfl ?_); refine goesL_ (some 162) rfl rfl Try.func11 (by kernel_rfl) rfl #[.int .i64 t274] rfl (by (try simp only [List.map_toArray, List.map_cons, List.map_nil]); first | done | rfl | (simp only [List.length_drop, List.length_take]; rfl)) ?_; (with_reducible refine (gangwaylaw1_num.calls t274 t275 _ A80.out).mono ?_); rintro e w' ⟨rfl, ⟨nd, rfl⟩⟩; refine ⟨_, rfl, ?_⟩; have hcz99_0 : w98.cell? ⟨gb221, 0, none⟩ = some (.slice A220_0 ((rd_T26 l0 x3_1).f0).length c220_0) := (blk_cell BK221.out 0).trans rfl; have hcz99_1 : w98.cell? ⟨gb221, 1, none⟩ = some (.int .i64 ((rd_T26 l0 x3_1).f1)) := (blk_cell BK221.out 1).trans rfl; have hcz99_2 : w98.cell? ⟨gb221, 2, none⟩ = some (.int .u64 ((rd_T26 l0 x3_1).f2)) := (blk_cell BK221.out 2).trans rfl; have hcz99_3 : w98.cell? ⟨gb221, 3, none⟩ = some (.int .i64 ((rd_T26 l0 x3_1).f3)) := (blk_cell BK221.out 3).trans rfl; have hfz99_0 := blk_frozen BK221.out 0; have hfz99_1 := blk_frozen BK221.out 1; have hfz99_2 := blk_frozen BK221.out 2; have hfz99_3 := blk_frozen BK221.out 3))
                                   go_ret
                                   exact ⟨by first | rfl | (simp [errW_none, errW_some] <;> rfl) | (simp only [← hji54, ← hji58, ← hji74]; first | rfl | (simp [errW_none, errW_some] <;> rfl)) | (simp [*, errW_none, errW_some] <;> rfl), by repeat (first | (with_reducible first | exact HB.out | apply below_alloc | apply pw_below_drewN | apply below_drew1 | refine below_set ?_ GE221.out) | exact HB.out)⟩
                                 ·rw [if_neg c82] at H
                                  have c82b0 : (t272 == ((rd_T26 l0 x3_1).f2)) = false := beq_eq_false_iff_ne.mpr c82
                                  have c82b1 : (t272 != ((rd_T26 l0 x3_1).f2)) = true := bne_iff_ne.mpr c82
                                  obtain rfl := Option.some.inj H
                                  go_wp2_with (first | ((with_reducible refine gate_callee (f := 20) rfl ?_); refine goesL_ (some 140) rfl rfl Try.func20 (by kernel_rfl) rfl #[.slice Ao16 t222.length co16] rfl (by (try simp only [List.map_toArray, List.map_cons, List.map_nil]); first | done | rfl | (simp only [List.length_drop, List.length_take]; rfl)) ?_; (with_reducible refine (gangwayref0_CopyBytes.calls kj61 _ _ t222 t264 _ ?side1 ?side2 A73.out).mono ?_); (case side1 => repeat (first | exact (Kd.R_reads' HO_5.out).2.2 | (with_reducible refine Kd.C_alloc ?_ _) | (with_reducible refine Kd.C_drewN ?_ _) | (with_reducible refine Kd.C_drew ?_))); (case side2 => exact (Kd.R_reads' HO_5.out).2.1); rintro e w100 ⟨v265, rfl, ho0, hb⟩; refine ⟨_, rfl, ?_⟩; have n0_ := Aside0.mk (Kd.R_elder' (by (with_reducible repeat (first | apply Kd.R_alloc | apply Kd.R_drewN | apply Kd.R_drew)); exact HO_5.out) (Kd.R_base ho0) hb); have n1_ := Aside0.mk (Kd.R_elder' (by (with_reducible repeat (first | apply Kd.R_alloc | apply Kd.R_drewN | apply Kd.R_drew)); exact HO_9.out) (Kd.R_base ho0) hb); have n2_ := Aside0.mk (Kd.R_lower (Kd.R_new' (Kd.R_new' ho0 (Kd.R_lt (by (with_reducible repeat (first | apply Kd.R_alloc | apply Kd.R_drewN | apply Kd.R_drew)); exact HO_5.out))) (Kd.R_lt (by (with_reducible repeat (first | apply Kd.R_alloc | apply Kd.R_drewN | apply Kd.R_drew)); exact HO_9.out))) (below_size (by repeat (first | (with_reducible first | exact HB.out | apply below_alloc | apply pw_below_drewN | apply below_drew1 | refine below_set ?_ GE221.out) | exact HB.out)))); have n3_ := Aside0.mk (blk_below (g := gb221) (o := .cells #[.slice A220_0 ((rd_T26 l0 x3_1).f0).length c220_0, .int .i64 ((rd_T26 l0 x3_1).f1), .int .u64 ((rd_T26 l0 x3_1).f2), .int .i64 ((rd_T26 l0 x3_1).f3)] 26 (0, 0)) (by (with_reducible repeat (first | refine blk_drewN ?_ _ | refine blk_drew ?_ | refine blk_alloc ?_ _)); exact BK221.out) hb); have n4_ := Aside0.mk (below_step (by repeat (first | (with_reducible first | exact HB.out | apply below_alloc | apply pw_below_drewN | apply below_drew1 | refine below_set ?_ GE221.out) | exact HB.out)) hb); clear HO_5; clear HO_9; clear BK221; clear HB; have HO_5 := n0_; have HO_9 := n1_; have HO266 := n2_; have BK221 := n3_; have HB := n4_; clear n0_ n1_ n2_ n3_ n4_; (try clear hb); (try clear hb2); (try clear hk); (try clear hi); (try clear ho0); obtain ⟨Ao101, co101, eo101⟩ := Kd.R_slice HO266.out; subst eo101; have p267 : 0 ≤ ((ji74) : Int) := of_decide_eq_true (by first | (with_reducible assumption) | assumption); have q267 : (ji74) < (t264.length : Int) := of_decide_eq_true (by first | (with_reducible assumption) | assumption); obtain ⟨ad267, e267, hx267_0⟩ := Kd.at_int (Kd.R_reads' HO266.out).2.2 (ji74) p267 q267; cases e267; replace p267 := eq_true p267; replace q267 := eq_true q267; have p77 : 0 ≤ ((ji74) : Int) := of_decide_eq_true (by first | (with_reducible assumption) | assumption); have q77 : ((ji74) : Int) < ((t264.length : Int) : Int) := of_decide_eq_true (by first | (with_reducible assumption) | assumption); obtain ⟨go77, co77, eo77, gb77, gl77, cl77, HG77⟩ := Kd.R_form HO266.out (by omega); (first | cases eo77 | (injection eo77 with ea_ en_ ec_; (first | subst ea_ | (injection ea_ with ea_; subst ea_)); subst ec_; clear en_)); have GB77 := Aside0.mk gb77; have GG77 := Aside0.mk HG77; clear gb77 gl77 HG77; (first | simp only [add_plain] at hx267_0 | skip); obtain ⟨hx77_0, hf77_0⟩ := Kd.R_celln 0 HO266.out ((ji74) : Int) p77 q77; replace p77 := eq_true p77; replace q77 := eq_true q77; have n_ := Aside0.mk (show Kd.R _ _ _ _ ((fun k_ => some k_ ≠ (.slice Ao16 t222.length co16 : Value).ownBlock ∧ some k_ ≠ (.slice Ao39 t235.length co39 : Value).ownBlock)) _ _ from by first | exact (Kd.R_mono HO266.out (fun k_ hk => ⟨hk.1.2, hk.2⟩)) | exact HO266.out); clear HO266; have HO266 := n_; clear n_; obtain ⟨hy102_, hz102_⟩ := Kd.R_celln 0 HO266.out ((ji74) : Int) (of_decide_eq_true (by first | (with_reducible assumption) | assumption)) (of_decide_eq_true (by first | (with_reducible assumption) | assumption)); have HP102 := Kd.R_putg HO266.out ((ji74) : Int) (Go.bits .or .u8 (rd t264 (ji74)) 128)) | ((with_reducible refine gate_store (t := 5) (p := 152) rfl ?_); refine store_event (t := 5) (p := 152) (v := ?vo_w103) (w1 := (w100.setCell ⟨go77, ((ji74) : Int).toNat, none⟩ (.int .u8 (Go.bits .or .u8 (rd t264 (ji74)) 128)))) ?hg ?ho ?hn ?hr ?_; (case ho => rfl); (case hg => rfl); (case hn => rfl); (case hr => first | (go_simp; done) | (go_simp; rfl)); intro w103 hw; have hg : w100.grownBy w103 (some go77) := (by rw [hw]; exact HP102.2); have hp_ : Kd.R (Kd.int .u8) 5 w103 w.heap.size (fun k_ => some k_ ≠ (.slice Ao16 t222.length co16 : Value).ownBlock ∧ some k_ ≠ (.slice Ao39 t235.length co39 : Value).ownBlock) (.slice (some ⟨go77, 0, none⟩) t264.length co101) y268 := (by rw [hw, Ny268.out]; exact HP102.1); clear HP102; have n0_ := Aside0.mk (Kd.R_after (v := (.slice (some ⟨go77, 0, none⟩) t264.length co101)) (v1 := (.slice (some ⟨go77, 0, none⟩) t264.length co101)) (ok := (fun k_ => some k_ ≠ (.slice Ao39 t235.length co39 : Value).ownBlock)) (by (with_reducible repeat (first | apply Kd.R_alloc | apply Kd.R_drewN | apply Kd.R_drew)); exact HO_5.out) hg (.inl rfl)); have n1_ := Aside0.mk (Kd.R_after (v := (.slice (some ⟨go77, 0, none⟩) t264.length co101)) (v1 := (.slice (some ⟨go77, 0, none⟩) t264.length co101)) (ok := (fun k_ => some k_ ≠ (.slice Ao16 t222.length co16 : Value).ownBlock)) (by (with_reducible repeat (first | apply Kd.R_alloc | apply Kd.R_drewN | apply Kd.R_drew)); exact HO_9.out) hg (.inl rfl)); have n2_ := Aside0.mk (blk_grown (g := gb221) (o := .cells #[.slice A220_0 ((rd_T26 l0 x3_1).f0).length c220_0, .int .i64 ((rd_T26 l0 x3_1).f1), .int .u64 ((rd_T26 l0 x3_1).f2), .int .i64 ((rd_T26 l0 x3_1).f3)] 26 (0, 0)) (by (with_reducible repeat (first | refine blk_drewN ?_ _ | refine blk_drew ?_ | refine blk_alloc ?_ _)); exact BK221.out) hg (Kd.R_ne HO266.out BK221.out (by decide))); have n3_ := Aside0.mk (hp_); have n4_ := Aside0.mk ((by rw [hw]; exact below_set (HB.out) GB77.out : Below w.heap.size w w103)); clear HO_5; clear HO_9; clear BK221; clear HO266; clear HB; have HO_5 := n0_; have HO_9 := n1_; have BK221 := n2_; have HO266 := n3_; have HB := n4_; clear n0_ n1_ n2_ n3_ n4_; clear hg hw hp_) | ((with_reducible refine gate_builtin (b := .append) (xs := #[.tmp 154, .tmp 155]) rfl ?_); (try (refine gate_guard (by rfl) ?_; dsimp only)); at_builtin; refine Kd.R_append (Kd.int .u8) (w0 := w) w.heap.size rfl (.tmp 154) (.tmp 155) 23 5 (.int .u8 0) 1 rfl Try.underlying23 info5 rfl (by decide) (by omega) (.slice (some ⟨go77, 0, none⟩) t264.length co101) y268 0 [.int .u8 0] (fun k_ => some k_ ≠ (.slice Ao16 t222.length co16 : Value).ownBlock ∧ some k_ ≠ (.slice Ao39 t235.length co39 : Value).ownBlock) (fun _ => False) rfl rfl ?aP (fun _ hk => hk.elim) ?aF ?aO ?aB ?aS ?aL ?_; (case aP => exact rfl); (case aB => exact (by repeat (first | (with_reducible first | exact HB.out | apply below_alloc | apply pw_below_drewN | apply below_drew1 | refine below_set ?_ GE221.out) | exact HB.out))); (case aF => exact (fun k_ hk => ⟨Kd.fresh' (Kd.R_lt (by (with_reducible repeat (first | apply Kd.R_alloc | apply Kd.R_drewN | apply Kd.R_drew)); exact HO_5.out)) k_ hk, Kd.fresh' (Kd.R_lt (by (with_reducible repeat (first | apply Kd.R_alloc | apply Kd.R_drewN | apply Kd.R_drew)); exact HO_9.out)) k_ hk⟩)); (case aO => exact (by (with_reducible repeat (first | apply Kd.R_alloc | apply Kd.R_drewN | apply Kd.R_drew)); exact HO266.out)); (case aS => exact (below_size (by repeat (first | (with_reducible first | exact HB.out | apply below_alloc | apply pw_below_drewN | apply below_drew1 | refine below_set ?_ GE221.out) | exact HB.out)))); (case aL => have := LMc78.out; omega); intro v270 w104 ho hb hg hat; rw [← Ny269.out] at ho; have n0_ := Aside0.mk (Kd.R_after (ok := (fun k_ => some k_ ≠ (.slice Ao39 t235.length co39 : Value).ownBlock)) (by (with_reducible repeat (first | apply Kd.R_alloc | apply Kd.R_drewN | apply Kd.R_drew)); exact HO_5.out) hg hat); have n1_ := Aside0.mk (Kd.R_after (ok := (fun k_ => some k_ ≠ (.slice Ao16 t222.length co16 : Value).ownBlock)) (by (with_reducible repeat (first | apply Kd.R_alloc | apply Kd.R_drewN | apply Kd.R_drew)); exact HO_9.out) hg hat); have n2_ := Aside0.mk (blk_grown (g := gb221) (o := .cells #[.slice A220_0 ((rd_T26 l0 x3_1).f0).length c220_0, .int .i64 ((rd_T26 l0 x3_1).f1), .int .u64 ((rd_T26 l0 x3_1).f2), .int .i64 ((rd_T26 l0 x3_1).f3)] 26 (0, 0)) (by (with_reducible repeat (first | refine blk_drewN ?_ _ | refine blk_drew ?_ | refine blk_alloc ?_ _)); exact BK221.out) hg (Kd.R_ne HO266.out BK221.out (by decide))); have n3_ := Aside0.mk (hb); have n4_ := Aside0.mk (ho); clear HO_5; clear HO_9; clear BK221; clear HB; clear HO266; have HO_5 := n0_; have HO_9 := n1_; have BK221 := n2_; have HB := n3_; have HO271 := n4_; clear n0_ n1_ n2_ n3_ n4_; clear ho hb hg hat; obtain ⟨Ao105, co105, eo105⟩ := Kd.R_slice HO271.out; subst eo105) | ((with_reducible refine gate_callee (f := 9) rfl ?_); refine goesL_ (some 157) rfl rfl Try.func9 (by kernel_rfl) rfl #[.slice Ao105 y269.length co105, .int .i64 64] rfl (by (try simp only [List.map_toArray, List.map_cons, List.map_nil]); first | done | rfl | (simp only [List.length_drop, List.length_take]; rfl)) ?_; (with_reducible refine (leb_Uint.calls kj61 _ _ y269 64 t272 t273 t274 _ ?side1 ?side2 A79.out).mono ?_); (case side1 => repeat (first | exact (Kd.R_reads' HO271.out).2.2 | (with_reducible refine Kd.C_alloc ?_ _) | (with_reducible refine Kd.C_drewN ?_ _) | (with_reducible refine Kd.C_drew ?_))); (case side2 => exact (Kd.R_reads' HO271.out).2.1); rintro e w106 ⟨rfl, hb⟩; refine ⟨_, rfl, ?_⟩; have n0_ := Aside0.mk (Kd.R_below (by (with_reducible repeat (first | apply Kd.R_alloc | apply Kd.R_drewN | apply Kd.R_drew)); exact HO_5.out) hb); have n1_ := Aside0.mk (Kd.R_below (by (with_reducible repeat (first | apply Kd.R_alloc | apply Kd.R_drewN | apply Kd.R_drew)); exact HO_9.out) hb); have n2_ := Aside0.mk (Kd.R_below (by (with_reducible repeat (first | apply Kd.R_alloc | apply Kd.R_drewN | apply Kd.R_drew)); exact HO271.out) hb); have n3_ := Aside0.mk (blk_below (g := gb221) (o := .cells #[.slice A220_0 ((rd_T26 l0 x3_1).f0).length c220_0, .int .i64 ((rd_T26 l0 x3_1).f1), .int .u64 ((rd_T26 l0 x3_1).f2), .int .i64 ((rd_T26 l0 x3_1).f3)] 26 (0, 0)) (by (with_reducible repeat (first | refine blk_drewN ?_ _ | refine blk_drew ?_ | refine blk_alloc ?_ _)); exact BK221.out) hb); have n4_ := Aside0.mk (below_step (by repeat (first | (with_reducible first | exact HB.out | apply below_alloc | apply pw_below_drewN | apply below_drew1 | refine below_set ?_ GE221.out) | exact HB.out)) hb); clear HO_5; clear HO_9; clear HO271; clear BK221; clear HB; have HO_5 := n0_; have HO_9 := n1_; have HO271 := n2_; have BK221 := n3_; have HB := n4_; clear n0_ n1_ n2_ n3_ n4_; (try clear hb); (try clear hb2); (try clear hk); (try clear hi)) | ((with_reducible refine gate_callee (f := 11) rfl ?_); refine goesL_ (some 162) rfl rfl Try.func11 (by kernel_rfl) rfl #[.int .i64 t274] rfl (by (try simp only [List.map_toArray, List.map_cons, List.map_nil]); first | done | rfl | (simp only [List.length_drop, List.length_take]; rfl)) ?_; (with_reducible refine (gangwaylaw1_num.calls t274 t275 _ A80.out).mono ?_); rintro e w' ⟨rfl, ⟨nd, rfl⟩⟩; refine ⟨_, rfl, ?_⟩; have hcz107_0 : w106.cell? ⟨gb221, 0, none⟩ = some (.slice A220_0 ((rd_T26 l0 x3_1).f0).length c220_0) := (blk_cell BK221.out 0).trans rfl; have hcz107_1 : w106.cell? ⟨gb221, 1, none⟩ = some (.int .i64 ((rd_T26 l0 x3_1).f1)) := (blk_cell BK221.out 1).trans rfl; have hcz107_2 : w106.cell? ⟨gb221, 2, none⟩ = some (.int .u64 ((rd_T26 l0 x3_1).f2)) := (blk_cell BK221.out 2).trans rfl; have hcz107_3 : w106.cell? ⟨gb221, 3, none⟩ = some (.int .i64 ((rd_T26 l0 x3_1).f3)) := (blk_cell BK221.out 3).trans rfl; have hfz107_0 := blk_frozen BK221.out 0; have hfz107_1 := blk_frozen BK221.out 1; have hfz107_2 := blk_frozen BK221.out 2; have hfz107_3 := blk_frozen BK221.out 3))
                                  go_ret
                                  exact ⟨by first | rfl | (simp [errW_none, errW_some] <;> rfl) | (simp only [← hji54, ← hji58, ← hji74]; first | rfl | (simp [errW_none, errW_some] <;> rfl)) | (simp [*, errW_none, errW_some] <;> rfl), by repeat (first | (with_reducible first | exact HB.out | apply below_alloc | apply pw_below_drewN | apply below_drew1 | refine below_set ?_ GE221.out) | exact HB.out)⟩
                                ·rw [if_neg c81] at H
                                 have c81b0 : (t275 == 0) = false := beq_eq_false_iff_ne.mpr c81
                                 have c81b1 : (t275 != 0) = true := bne_iff_ne.mpr c81
                                 obtain rfl := Option.some.inj H
                                 go_wp2_with (first | ((with_reducible refine gate_callee (f := 20) rfl ?_); refine goesL_ (some 140) rfl rfl Try.func20 (by kernel_rfl) rfl #[.slice Ao16 t222.length co16] rfl (by (try simp only [List.map_toArray, List.map_cons, List.map_nil]); first | done | rfl | (simp only [List.length_drop, List.length_take]; rfl)) ?_; (with_reducible refine (gangwayref0_CopyBytes.calls kj61 _ _ t222 t264 _ ?side1 ?side2 A73.out).mono ?_); (case side1 => repeat (first | exact (Kd.R_reads' HO_5.out).2.2 | (with_reducible refine Kd.C_alloc ?_ _) | (with_reducible refine Kd.C_drewN ?_ _) | (with_reducible refine Kd.C_drew ?_))); (case side2 => exact (Kd.R_reads' HO_5.out).2.1); rintro e w108 ⟨v265, rfl, ho0, hb⟩; refine ⟨_, rfl, ?_⟩; have n0_ := Aside0.mk (Kd.R_elder' (by (with_reducible repeat (first | apply Kd.R_alloc | apply Kd.R_drewN | apply Kd.R_drew)); exact HO_5.out) (Kd.R_base ho0) hb); have n1_ := Aside0.mk (Kd.R_elder' (by (with_reducible repeat (first | apply Kd.R_alloc | apply Kd.R_drewN | apply Kd.R_drew)); exact HO_9.out) (Kd.R_base ho0) hb); have n2_ := Aside0.mk (Kd.R_lower (Kd.R_new' (Kd.R_new' ho0 (Kd.R_lt (by (with_reducible repeat (first | apply Kd.R_alloc | apply Kd.R_drewN | apply Kd.R_drew)); exact HO_5.out))) (Kd.R_lt (by (with_reducible repeat (first | apply Kd.R_alloc | apply Kd.R_drewN | apply Kd.R_drew)); exact HO_9.out))) (below_size (by repeat (first | (with_reducible first | exact HB.out | apply below_alloc | apply pw_below_drewN | apply below_drew1 | refine below_set ?_ GE221.out) | exact HB.out)))); have n3_ := Aside0.mk (blk_below (g := gb221) (o := .cells #[.slice A220_0 ((rd_T26 l0 x3_1).f0).length c220_0, .int .i64 ((rd_T26 l0 x3_1).f1), .int .u64 ((rd_T26 l0 x3_1).f2), .int .i64 ((rd_T26 l0 x3_1).f3)] 26 (0, 0)) (by (with_reducible repeat (first | refine blk_drewN ?_ _ | refine blk_drew ?_ | refine blk_alloc ?_ _)); exact BK221.out) hb); have n4_ := Aside0.mk (below_step (by repeat (first | (with_reducible first | exact HB.out | apply below_alloc | apply pw_below_drewN | apply below_drew1 | refine below_set ?_ GE221.out) | exact HB.out)) hb); clear HO_5; clear HO_9; clear BK221; clear HB; have HO_5 := n0_; have HO_9 := n1_; have HO266 := n2_; have BK221 := n3_; have HB := n4_; clear n0_ n1_ n2_ n3_ n4_; (try clear hb); (try clear hb2); (try clear hk); (try clear hi); (try clear ho0); obtain ⟨Ao109, co109, eo109⟩ := Kd.R_slice HO266.out; subst eo109; have p267 : 0 ≤ ((ji74) : Int) := of_decide_eq_true (by first | (with_reducible assumption) | assumption); have q267 : (ji74) < (t264.length : Int) := of_decide_eq_true (by first | (with_reducible assumption) | assumption); obtain ⟨ad267, e267, hx267_0⟩ := Kd.at_int (Kd.R_reads' HO266.out).2.2 (ji74) p267 q267; cases e267; replace p267 := eq_true p267; replace q267 := eq_true q267; have p77 : 0 ≤ ((ji74) : Int) := of_decide_eq_true (by first | (with_reducible assumption) | assumption); have q77 : ((ji74) : Int) < ((t264.length : Int) : Int) := of_decide_eq_true (by first | (with_reducible assumption) | assumption); obtain ⟨go77, co77, eo77, gb77, gl77, cl77, HG77⟩ := Kd.R_form HO266.out (by omega); (first | cases eo77 | (injection eo77 with ea_ en_ ec_; (first | subst ea_ | (injection ea_ with ea_; subst ea_)); subst ec_; clear en_)); have GB77 := Aside0.mk gb77; have GG77 := Aside0.mk HG77; clear gb77 gl77 HG77; (first | simp only [add_plain] at hx267_0 | skip); obtain ⟨hx77_0, hf77_0⟩ := Kd.R_celln 0 HO266.out ((ji74) : Int) p77 q77; replace p77 := eq_true p77; replace q77 := eq_true q77; have n_ := Aside0.mk (show Kd.R _ _ _ _ ((fun k_ => some k_ ≠ (.slice Ao16 t222.length co16 : Value).ownBlock ∧ some k_ ≠ (.slice Ao39 t235.length co39 : Value).ownBlock)) _ _ from by first | exact (Kd.R_mono HO266.out (fun k_ hk => ⟨hk.1.2, hk.2⟩)) | exact HO266.out); clear HO266; have HO266 := n_; clear n_; obtain ⟨hy110_, hz110_⟩ := Kd.R_celln 0 HO266.out ((ji74) : Int) (of_decide_eq_true (by first | (with_reducible assumption) | assumption)) (of_decide_eq_true (by first | (with_reducible assumption) | assumption)); have HP110 := Kd.R_putg HO266.out ((ji74) : Int) (Go.bits .or .u8 (rd t264 (ji74)) 128)) | ((with_reducible refine gate_store (t := 5) (p := 152) rfl ?_); refine store_event (t := 5) (p := 152) (v := ?vo_w111) (w1 := (w108.setCell ⟨go77, ((ji74) : Int).toNat, none⟩ (.int .u8 (Go.bits .or .u8 (rd t264 (ji74)) 128)))) ?hg ?ho ?hn ?hr ?_; (case ho => rfl); (case hg => rfl); (case hn => rfl); (case hr => first | (go_simp; done) | (go_simp; rfl)); intro w111 hw; have hg : w108.grownBy w111 (some go77) := (by rw [hw]; exact HP110.2); have hp_ : Kd.R (Kd.int .u8) 5 w111 w.heap.size (fun k_ => some k_ ≠ (.slice Ao16 t222.length co16 : Value).ownBlock ∧ some k_ ≠ (.slice Ao39 t235.length co39 : Value).ownBlock) (.slice (some ⟨go77, 0, none⟩) t264.length co109) y268 := (by rw [hw, Ny268.out]; exact HP110.1); clear HP110; have n0_ := Aside0.mk (Kd.R_after (v := (.slice (some ⟨go77, 0, none⟩) t264.length co109)) (v1 := (.slice (some ⟨go77, 0, none⟩) t264.length co109)) (ok := (fun k_ => some k_ ≠ (.slice Ao39 t235.length co39 : Value).ownBlock)) (by (with_reducible repeat (first | apply Kd.R_alloc | apply Kd.R_drewN | apply Kd.R_drew)); exact HO_5.out) hg (.inl rfl)); have n1_ := Aside0.mk (Kd.R_after (v := (.slice (some ⟨go77, 0, none⟩) t264.length co109)) (v1 := (.slice (some ⟨go77, 0, none⟩) t264.length co109)) (ok := (fun k_ => some k_ ≠ (.slice Ao16 t222.length co16 : Value).ownBlock)) (by (with_reducible repeat (first | apply Kd.R_alloc | apply Kd.R_drewN | apply Kd.R_drew)); exact HO_9.out) hg (.inl rfl)); have n2_ := Aside0.mk (blk_grown (g := gb221) (o := .cells #[.slice A220_0 ((rd_T26 l0 x3_1).f0).length c220_0, .int .i64 ((rd_T26 l0 x3_1).f1), .int .u64 ((rd_T26 l0 x3_1).f2), .int .i64 ((rd_T26 l0 x3_1).f3)] 26 (0, 0)) (by (with_reducible repeat (first | refine blk_drewN ?_ _ | refine blk_drew ?_ | refine blk_alloc ?_ _)); exact BK221.out) hg (Kd.R_ne HO266.out BK221.out (by decide))); have n3_ := Aside0.mk (hp_); have n4_ := Aside0.mk ((by rw [hw]; exact below_set (HB.out) GB77.out : Below w.heap.size w w111)); clear HO_5; clear HO_9; clear BK221; clear HO266; clear HB; have HO_5 := n0_; have HO_9 := n1_; have BK221 := n2_; have HO266 := n3_; have HB := n4_; clear n0_ n1_ n2_ n3_ n4_; clear hg hw hp_) | ((with_reducible refine gate_builtin (b := .append) (xs := #[.tmp 154, .tmp 155]) rfl ?_); (try (refine gate_guard (by rfl) ?_; dsimp only)); at_builtin; refine Kd.R_append (Kd.int .u8) (w0 := w) w.heap.size rfl (.tmp 154) (.tmp 155) 23 5 (.int .u8 0) 1 rfl Try.underlying23 info5 rfl (by decide) (by omega) (.slice (some ⟨go77, 0, none⟩) t264.length co109) y268 0 [.int .u8 0] (fun k_ => some k_ ≠ (.slice Ao16 t222.length co16 : Value).ownBlock ∧ some k_ ≠ (.slice Ao39 t235.length co39 : Value).ownBlock) (fun _ => False) rfl rfl ?aP (fun _ hk => hk.elim) ?aF ?aO ?aB ?aS ?aL ?_; (case aP => exact rfl); (case aB => exact (by repeat (first | (with_reducible first | exact HB.out | apply below_alloc | apply pw_below_drewN | apply below_drew1 | refine below_set ?_ GE221.out) | exact HB.out))); (case aF => exact (fun k_ hk => ⟨Kd.fresh' (Kd.R_lt (by (with_reducible repeat (first | apply Kd.R_alloc | apply Kd.R_drewN | apply Kd.R_drew)); exact HO_5.out)) k_ hk, Kd.fresh' (Kd.R_lt (by (with_reducible repeat (first | apply Kd.R_alloc | apply Kd.R_drewN | apply Kd.R_drew)); exact HO_9.out)) k_ hk⟩)); (case aO => exact (by (with_reducible repeat (first | apply Kd.R_alloc | apply Kd.R_drewN | apply Kd.R_drew)); exact HO266.out)); (case aS => exact (below_size (by repeat (first | (with_reducible first | exact HB.out | apply below_alloc | apply pw_below_drewN | apply below_drew1 | refine below_set ?_ GE221.out) | exact HB.out)))); (case aL => have := LMc78.out; omega); intro v270 w112 ho hb hg hat; rw [← Ny269.out] at ho; have n0_ := Aside0.mk (Kd.R_after (ok := (fun k_ => some k_ ≠ (.slice Ao39 t235.length co39 : Value).ownBlock)) (by (with_reducible repeat (first | apply Kd.R_alloc | apply Kd.R_drewN | apply Kd.R_drew)); exact HO_5.out) hg hat); have n1_ := Aside0.mk (Kd.R_after (ok := (fun k_ => some k_ ≠ (.slice Ao16 t222.length co16 : Value).ownBlock)) (by (with_reducible repeat (first | apply Kd.R_alloc | apply Kd.R_drewN | apply Kd.R_drew)); exact HO_9.out) hg hat); have n2_ := Aside0.mk (blk_grown (g := gb221) (o := .cells #[.slice A220_0 ((rd_T26 l0 x3_1).f0).length c220_0, .int .i64 ((rd_T26 l0 x3_1).f1), .int .u64 ((rd_T26 l0 x3_1).f2), .int .i64 ((rd_T26 l0 x3_1).f3)] 26 (0, 0)) (by (with_reducible repeat (first | refine blk_drewN ?_ _ | refine blk_drew ?_ | refine blk_alloc ?_ _)); exact BK221.out) hg (Kd.R_ne HO266.out BK221.out (by decide))); have n3_ := Aside0.mk (hb); have n4_ := Aside0.mk (ho); clear HO_5; clear HO_9; clear BK221; clear HB; clear HO266; have HO_5 := n0_; have HO_9 := n1_; have BK221 := n2_; have HB := n3_; have HO271 := n4_; clear n0_ n1_ n2_ n3_ n4_; clear ho hb hg hat; obtain ⟨Ao113, co113, eo113⟩ := Kd.R_slice HO271.out; subst eo113) | ((with_reducible refine gate_callee (f := 9) rfl ?_); refine goesL_ (some 157) rfl rfl Try.func9 (by kernel_rfl) rfl #[.slice Ao113 y269.length co113, .int .i64 64] rfl (by (try simp only [List.map_toArray, List.map_cons, List.map_nil]); first | done | rfl | (simp only [List.length_drop, List.length_take]; rfl)) ?_; (with_reducible refine (leb_Uint.calls kj61 _ _ y269 64 t272 t273 t274 _ ?side1 ?side2 A79.out).mono ?_); (case side1 => repeat (first | exact (Kd.R_reads' HO271.out).2.2 | (with_reducible refine Kd.C_alloc ?_ _) | (with_reducible refine Kd.C_drewN ?_ _) | (with_reducible refine Kd.C_drew ?_))); (case side2 => exact (Kd.R_reads' HO271.out).2.1); rintro e w114 ⟨rfl, hb⟩; refine ⟨_, rfl, ?_⟩; have n0_ := Aside0.mk (Kd.R_below (by (with_reducible repeat (first | apply Kd.R_alloc | apply Kd.R_drewN | apply Kd.R_drew)); exact HO_5.out) hb); have n1_ := Aside0.mk (Kd.R_below (by (with_reducible repeat (first | apply Kd.R_alloc | apply Kd.R_drewN | apply Kd.R_drew)); exact HO_9.out) hb); have n2_ := Aside0.mk (Kd.R_below (by (with_reducible repeat (first | apply Kd.R_alloc | apply Kd.R_drewN | apply Kd.R_drew)); exact HO271.out) hb); have n3_ := Aside0.mk (blk_below (g := gb221) (o := .cells #[.slice A220_0 ((rd_T26 l0 x3_1).f0).length c220_0, .int .i64 ((rd_T26 l0 x3_1).f1), .int .u64 ((rd_T26 l0 x3_1).f2), .int .i64 ((rd_T26 l0 x3_1).f3)] 26 (0, 0)) (by (with_reducible repeat (first | refine blk_drewN ?_ _ | refine blk_drew ?_ | refine blk_alloc ?_ _)); exact BK221.out) hb); have n4_ := Aside0.mk (below_step (by repeat (first | (with_reducible first | exact HB.out | apply below_alloc | apply pw_below_drewN | apply below_drew1 | refine below_set ?_ GE221.out) | exact HB.out)) hb); clear HO_5; clear HO_9; clear HO271; clear BK221; clear HB; have HO_5 := n0_; have HO_9 := n1_; have HO271 := n2_; have BK221 := n3_; have HB := n4_; clear n0_ n1_ n2_ n3_ n4_; (try clear hb); (try clear hb2); (try clear hk); (try clear hi)) | ((with_reducible refine gate_callee (f := 11) rfl ?_); refine goesL_ (some 162) rfl rfl Try.func11 (by kernel_rfl) rfl #[.int .i64 t274] rfl (by (try simp only [List.map_toArray, List.map_cons, List.map_nil]); first | done | rfl | (simp only [List.length_drop, List.length_take]; rfl)) ?_; (with_reducible refine (gangwaylaw1_num.calls t274 t275 _ A80.out).mono ?_); rintro e w' ⟨rfl, ⟨nd, rfl⟩⟩; refine ⟨_, rfl, ?_⟩))
                                 go_ret
                                 exact ⟨by first | rfl | (simp [errW_none, errW_some] <;> rfl) | (simp only [← hji54, ← hji58, ← hji74]; first | rfl | (simp [errW_none, errW_some] <;> rfl)) | (simp [*, errW_none, errW_some] <;> rfl), by repeat (first | (with_reducible first | exact HB.out | apply below_alloc | apply pw_below_drewN | apply below_drew1 | refine below_set ?_ GE221.out) | exact HB.out)⟩
                               ·rw [if_neg c78] at H
                                exact absurd H (by simp)
                              ·rw [if_neg c76] at H
                               exact absurd H (by simp)
                             ·rw [if_neg c75] at H
                              exact absurd H (by simp)
                            ·rw [if_neg c72] at H
                             have c72b0 : decide ((t222.length : Int) < 10) = false := decide_eq_false c72
                             have c72b1 : decide (t222.length < 10) = false := decide_eq_false (by omega)
                             clear c72
                             (first | rw [c72b0] | (simp only [i64_w, i32_w]; rw [c72b0]) | skip)
                             have H' := Aside0.mk H
                             clear H
                             go_wp2
                             go_meet
                             case rel => exact ⟨_, (t235), H', ⟨by have := HK1.out; have := HJ1.out; have := HJ10.out; have := HJ34.out; have := HJ61.out; first | omega | exact Nat.le_refl _⟩, ⟨by (with_reducible repeat (first | apply Kd.R_alloc | apply Kd.R_drewN | apply Kd.R_drew)); exact Kd.R_mono HO_9.out (fun _ hk => trivial)⟩, ⟨by (with_reducible repeat (first | refine blk_drewN ?_ _ | refine blk_drew ?_ | refine blk_alloc ?_ _)); exact BK221.out⟩, ⟨by repeat (first | (with_reducible first | exact HB.out | apply below_alloc | apply pw_below_drewN | apply below_drew1 | refine below_set ?_ GE221.out) | exact HB.out)⟩⟩
                           case rest =>
                            as_aux_lemma =>
                             clear HC71
                             try clear c1
                             try clear c2
                             try clear p2
                             try clear q2
                             try clear hx2
                             try clear c3
                             try clear c3b0
                             try clear c4
                             try clear c5
                             try clear c5b0
                             try clear c6
                             try clear c6b0
                             try clear p6
                             try clear q6
                             try clear c7
                             try clear p7
                             try clear q7
                             try clear hx7
                             try clear hf7
                             try clear c8
                             try clear c9
                             try clear c11
                             try clear c14
                             try clear c16
                             try clear c18
                             try clear c20
                             try clear c22
                             try clear c22b0
                             try clear c22b1
                             try clear p22
                             try clear q22
                             try clear hx22
                             try clear c23
                             try clear c23b0
                             try clear c23b1
                             try clear c24
                             try clear c24b0
                             try clear c24b1
                             try clear c25
                             try clear c25b0
                             try clear p26
                             try clear q26
                             try clear hx26
                             try clear c30
                             try clear c33
                             try clear c45
                             try clear c45b0
                             try clear c45b1
                             try clear c46
                             try clear c46b0
                             try clear c46b1
                             try clear c47
                             try clear c47b0
                             try clear c47b1
                             try clear c48
                             try clear c48b0
                             try clear c53
                             try clear c55
                             try clear c55b0
                             try clear c55b1
                             try clear c56
                             try clear c56b0
                             try clear c56b1
                             try clear c59
                             try clear c59b0
                             try clear c59b1
                             try clear c60
                             try clear c60b0
                             try clear c60b1
                             try clear q63
                             try clear p64
                             try clear q65
                             try clear c68
                             try clear c68b0
                             try clear c68b1
                             try clear c70
                             try clear c72
                             try clear c72b0
                             try clear c72b1
                             try clear c75
                             try clear c75b0
                             try clear c76
                             try clear c76b0
                             try clear p77
                             try clear q77
                             try clear hx77
                             try clear hf77
                             try clear c78
                             try clear c81
                             try clear c81b0
                             try clear c81b1
                             try clear c82
                             try clear c82b0
                             try clear c82b1
                             try clear c83
                             try clear c83b0
                             try clear c83b1
                             try clear hcz107_0
                             try clear hcz107_1
                             try clear hcz107_2
                             try clear hcz107_3
                             try clear hcz13_0
                             try clear hcz13_1
                             try clear hcz13_2
                             try clear hcz13_3
                             try clear hcz26_0
                             try clear hcz26_1
                             try clear hcz26_2
                             try clear hcz26_3
                             try clear hcz27_0
                             try clear hcz27_1
                             try clear hcz27_2
                             try clear hcz27_3
                             try clear hcz28_0
                             try clear hcz28_1
                             try clear hcz28_2
                             try clear hcz28_3
                             try clear hcz29_0
                             try clear hcz29_1
                             try clear hcz29_2
                             try clear hcz29_3
                             try clear hcz36_0
                             try clear hcz36_1
                             try clear hcz36_2
                             try clear hcz36_3
                             try clear hcz49_0
                             try clear hcz49_1
                             try clear hcz49_2
                             try clear hcz49_3
                             try clear hcz50_0
                             try clear hcz50_1
                             try clear hcz50_2
                             try clear hcz50_3
                             try clear hcz51_0
                             try clear hcz51_1
                             try clear hcz51_2
                             try clear hcz51_3
                             try clear hcz52_0
                             try clear hcz52_1
                             try clear hcz52_2
                             try clear hcz52_3
                             try clear hcz91_0
                             try clear hcz91_1
                             try clear hcz91_2
                             try clear hcz91_3
                             try clear hcz99_0
                             try clear hcz99_1
                             try clear hcz99_2
                             try clear hcz99_3
                             try clear hfz107_0
                             try clear hfz107_1
                             try clear hfz107_2
                             try clear hfz107_3
                             try clear hfz13_0
                             try clear hfz13_1
                             try clear hfz13_2
                             try clear hfz13_3
                             try clear hfz26_0
                             try clear hfz26_1
                             try clear hfz26_2
                             try clear hfz26_3
                             try clear hfz27_0
                             try clear hfz27_1
                             try clear hfz27_2
                             try clear hfz27_3
                             try clear hfz28_0
                             try clear hfz28_1
                             try clear hfz28_2
                             try clear hfz28_3
                             try clear hfz29_0
                             try clear hfz29_1
                             try clear hfz29_2
                             try clear hfz29_3
                             try clear hfz36_0
                             try clear hfz36_1
                             try clear hfz36_2
                             try clear hfz36_3
                             try clear hfz49_0
                             try clear hfz49_1
                             try clear hfz49_2
                             try clear hfz49_3
                             try clear hfz50_0
                             try clear hfz50_1
                             try clear hfz50_2
                             try clear hfz50_3
                             try clear hfz51_0
                             try clear hfz51_1
                             try clear hfz51_2
                             try clear hfz51_3
                             try clear hfz52_0
                             try clear hfz52_1
                             try clear hfz52_2
                             try clear hfz52_3
                             try clear hfz91_0
                             try clear hfz91_1
                             try clear hfz91_2
                             try clear hfz91_3
                             try clear hfz99_0
                             try clear hfz99_1
                             try clear hfz99_2
                             try clear hfz99_3
                             try clear hx220_0
                             try clear hx220_1
                             try clear hx220_2
                             try clear hx220_3
                             try clear hx267_0
                             try clear hx77_0
                             try clear p2
                             try clear p22
                             try clear p220
                             try clear p267
                             try clear p6
                             try clear p64
                             try clear p77
                             try clear q2
                             try clear q22
                             try clear q220
                             try clear q267
                             try clear q6
                             try clear q63
                             try clear q65
                             try clear q77
                             obtain ⟨kq, x9_70, HA, HJ70, HO_9, BK221, HB⟩ := hcut
                             have hl9_70 := (Kd.R_reads' HO_9.out).1
                             rw [hl9_70] at HO_9
                             (try simp only [hl9_70])
                             (try simp only [hl9_70] at BK221)
                             cases kq with
                             | zero => exact absurd HA.out (by simp [gangwaylaw1_LebBack.j5])
                             | succ kj70 =>
                              have H := HA.out
                              clear HA
                              simp only [gangwaylaw1_LebBack.j5] at H
                              by_cases c115 : (x9_70.length : Int) < 10
                              ·rw [if_pos c115] at H
                               have c115b0 : decide ((x9_70.length : Int) < 10) = true := decide_eq_true c115
                               have c115b1 : decide (x9_70.length < 10) = true := decide_eq_true (by omega)
                               clear c115
                               replace H := Option.bind_eq_some_iff.mp H
                               obtain ⟨t276, A1160, H⟩ := H
                               replace H : (if 0 ≤ (wrap64 ((t276.length : Int) - 1)) then (if (wrap64 ((t276.length : Int) - 1)) < (t276.length : Int) then ((some (t276.set ((wrap64 ((t276.length : Int) - 1)) : Int).toNat (Go.bits .or .u8 (rd t276 (wrap64 ((t276.length : Int) - 1))) 128) : List Int)).bind fun y280 => (if ((rd_T26 l0 x3_1).f3) < 0 then (gangwaylaw1_LebBack.j6 kj70 l0 x3_1 x9_70 y280 127 ((rd_T26 l0 x3_1).f0) ((rd_T26 l0 x3_1).f1) ((rd_T26 l0 x3_1).f2) ((rd_T26 l0 x3_1).f3)) else (gangwaylaw1_LebBack.j6 kj70 l0 x3_1 x9_70 y280 0 ((rd_T26 l0 x3_1).f0) ((rd_T26 l0 x3_1).f1) ((rd_T26 l0 x3_1).f2) ((rd_T26 l0 x3_1).f3)))) else (none)) else (none)) = some r := H
                               have A116 := Aside0.mk A1160
                               clear A1160
                               obtain ⟨ji117, hji117⟩ : ∃ j_ : Int, (wrap64 ((t276.length : Int) - 1)) = j_ := ⟨_, rfl⟩
                               replace H : (if 0 ≤ (ji117) then (if (ji117) < (t276.length : Int) then ((some (t276.set ((ji117) : Int).toNat (Go.bits .or .u8 (rd t276 (ji117)) 128) : List Int)).bind fun y280 => (if ((rd_T26 l0 x3_1).f3) < 0 then (gangwaylaw1_LebBack.j6 kj70 l0 x3_1 x9_70 y280 127 ((rd_T26 l0 x3_1).f0) ((rd_T26 l0 x3_1).f1) ((rd_T26 l0 x3_1).f2) ((rd_T26 l0 x3_1).f3)) else (gangwaylaw1_LebBack.j6 kj70 l0 x3_1 x9_70 y280 0 ((rd_T26 l0 x3_1).f0) ((rd_T26 l0 x3_1).f1) ((rd_T26 l0 x3_1).f2) ((rd_T26 l0 x3_1).f3)))) else (none)) else (none)) = some r := by first | (rw [hji117] at H; exact H) | (simp only [hji117] at H ⊢; exact H)
                               (try rw [hji117] at A116)
                               have hji117w : (IntKind.i64.wrap ((t276.length : Int) - 1)) = ji117 := (i64_w _).trans hji117
                               by_cases c118 : 0 ≤ (ji117)
                               ·rw [if_pos c118] at H
                                have c118b0 : decide (0 ≤ (ji117)) = true := decide_eq_true c118
                                clear c118
                                by_cases c119 : (ji117) < (t276.length : Int)
                                ·rw [if_pos c119] at H
                                 have c119b0 : decide ((ji117) < (t276.length : Int)) = true := decide_eq_true c119
                                 clear c119
                                 obtain ⟨y280, hy280⟩ : ∃ y_ : List Int, y_ = (t276.set ((ji117) : Int).toNat (Go.bits .or .u8 (rd t276 (ji117)) 128)) := ⟨_, rfl⟩
                                 replace H : (if ((rd_T26 l0 x3_1).f3) < 0 then (gangwaylaw1_LebBack.j6 kj70 l0 x3_1 x9_70 y280 127 ((rd_T26 l0 x3_1).f0) ((rd_T26 l0 x3_1).f1) ((rd_T26 l0 x3_1).f2) ((rd_T26 l0 x3_1).f3)) else (gangwaylaw1_LebBack.j6 kj70 l0 x3_1 x9_70 y280 0 ((rd_T26 l0 x3_1).f0) ((rd_T26 l0 x3_1).f1) ((rd_T26 l0 x3_1).f2) ((rd_T26 l0 x3_1).f3))) = some r := by first | (rw [hy280]; with_reducible exact H) | (have H2_ := (Option.bind_some _ _).symm.trans H; rw [hy280]; with_reducible exact H2_) | (have H2_ := (Option.bind_some _ _).symm.trans H; with_reducible exact H2_) | with_reducible exact H | (rw [hy280]; exact H) | exact H
                                 have Ny280 := Aside0.mk hy280
                                 clear hy280
                                 have HC121 := Aside0.mk H
                                 clear H
                                 go_upto_if 196 with (first | ((with_reducible refine gate_callee (f := 20) rfl ?_); refine goesL_ (some 181) rfl rfl Try.func20 (by kernel_rfl) rfl #[.slice Ao39 x9_70.length co39] rfl (by (try simp only [List.map_toArray, List.map_cons, List.map_nil]); first | done | rfl | (simp only [List.length_drop, List.length_take]; rfl)) ?_; (with_reducible refine (gangwayref0_CopyBytes.calls kj70 _ _ x9_70 t276 _ ?side1 ?side2 A116.out).mono ?_); (case side1 => repeat (first | exact (Kd.R_reads' HO_9.out).2.2 | (with_reducible refine Kd.C_alloc ?_ _) | (with_reducible refine Kd.C_drewN ?_ _) | (with_reducible refine Kd.C_drew ?_))); (case side2 => exact (Kd.R_reads' HO_9.out).2.1); rintro e w122 ⟨v277, rfl, ho0, hb⟩; refine ⟨_, rfl, ?_⟩; have n0_ := Aside0.mk (Kd.R_elder' (by (with_reducible repeat (first | apply Kd.R_alloc | apply Kd.R_drewN | apply Kd.R_drew)); exact HO_9.out) (Kd.R_base ho0) hb); have n1_ := Aside0.mk (Kd.R_lower (Kd.R_new' ho0 (Kd.R_lt (by (with_reducible repeat (first | apply Kd.R_alloc | apply Kd.R_drewN | apply Kd.R_drew)); exact HO_9.out))) (below_size (by repeat (first | (with_reducible first | exact HB.out | apply below_alloc | apply pw_below_drewN | apply below_drew1 | refine below_set ?_ GE221.out) | exact HB.out)))); have n2_ := Aside0.mk (blk_below (g := gb221) (o := .cells #[.slice A220_0 ((rd_T26 l0 x3_1).f0).length c220_0, .int .i64 ((rd_T26 l0 x3_1).f1), .int .u64 ((rd_T26 l0 x3_1).f2), .int .i64 ((rd_T26 l0 x3_1).f3)] 26 (0, 0)) (by (with_reducible repeat (first | refine blk_drewN ?_ _ | refine blk_drew ?_ | refine blk_alloc ?_ _)); exact BK221.out) hb); have n3_ := Aside0.mk (below_step (by repeat (first | (with_reducible first | exact HB.out | apply below_alloc | apply pw_below_drewN | apply below_drew1 | refine below_set ?_ GE221.out) | exact HB.out)) hb); clear HO_9; clear BK221; clear HB; have HO_9 := n0_; have HO278 := n1_; have BK221 := n2_; have HB := n3_; clear n0_ n1_ n2_ n3_; (try clear hb); (try clear hb2); (try clear hk); (try clear hi); (try clear ho0); obtain ⟨Ao123, co123, eo123⟩ := Kd.R_slice HO278.out; subst eo123; have p279 : 0 ≤ ((ji117) : Int) := of_decide_eq_true (by first | (with_reducible assumption) | assumption); have q279 : (ji117) < (t276.length : Int) := of_decide_eq_true (by first | (with_reducible assumption) | assumption); obtain ⟨ad279, e279, hx279_0⟩ := Kd.at_int (Kd.R_reads' HO278.out).2.2 (ji117) p279 q279; cases e279; replace p279 := eq_true p279; replace q279 := eq_true q279; have p120 : 0 ≤ ((ji117) : Int) := of_decide_eq_true (by first | (with_reducible assumption) | assumption); have q120 : ((ji117) : Int) < ((t276.length : Int) : Int) := of_decide_eq_true (by first | (with_reducible assumption) | assumption); obtain ⟨go120, co120, eo120, gb120, gl120, cl120, HG120⟩ := Kd.R_form HO278.out (by omega); (first | cases eo120 | (injection eo120 with ea_ en_ ec_; (first | subst ea_ | (injection ea_ with ea_; subst ea_)); subst ec_; clear en_)); have GB120 := Aside0.mk gb120; have GG120 := Aside0.mk HG120; clear gb120 gl120 HG120; (first | simp only [add_plain] at hx279_0 | skip); obtain ⟨hx120_0, hf120_0⟩ := Kd.R_celln 0 HO278.out ((ji117) : Int) p120 q120; replace p120 := eq_true p120; replace q120 := eq_true q120; have n_ := Aside0.mk (show Kd.R _ _ _ _ ((fun k_ => some k_ ≠ (.slice Ao39 x9_70.length co39 : Value).ownBlock)) _ _ from by first | exact (Kd.R_mono HO278.out (fun k_ hk => hk.2)) | exact HO278.out); clear HO278; have HO278 := n_; clear n_; obtain ⟨hy124_, hz124_⟩ := Kd.R_celln 0 HO278.out ((ji117) : Int) (of_decide_eq_true (by first | (with_reducible assumption) | assumption)) (of_decide_eq_true (by first | (with_reducible assumption) | assumption)); have HP124 := Kd.R_putg HO278.out ((ji117) : Int) (Go.bits .or .u8 (rd t276 (ji117)) 128)) | ((with_reducible refine gate_store (t := 5) (p := 193) rfl ?_); refine store_event (t := 5) (p := 193) (v := ?vo_w125) (w1 := (w122.setCell ⟨go120, ((ji117) : Int).toNat, none⟩ (.int .u8 (Go.bits .or .u8 (rd t276 (ji117)) 128)))) ?hg ?ho ?hn ?hr ?_; (case ho => rfl); (case hg => rfl); (case hn => rfl); (case hr => first | (go_simp; done) | (go_simp; rfl)); intro w125 hw; have hg : w122.grownBy w125 (some go120) := (by rw [hw]; exact HP124.2); have hp_ : Kd.R (Kd.int .u8) 5 w125 w.heap.size (fun k_ => some k_ ≠ (.slice Ao39 x9_70.length co39 : Value).ownBlock) (.slice (some ⟨go120, 0, none⟩) t276.length co123) y280 := (by rw [hw, Ny280.out]; exact HP124.1); clear HP124; have n0_ := Aside0.mk (Kd.R_after (v := (.slice (some ⟨go120, 0, none⟩) t276.length co123)) (v1 := (.slice (some ⟨go120, 0, none⟩) t276.length co123)) (ok := (fun _ => True)) (by (with_reducible repeat (first | apply Kd.R_alloc | apply Kd.R_drewN | apply Kd.R_drew)); exact HO_9.out) hg (.inl rfl)); have n1_ := Aside0.mk (blk_grown (g := gb221) (o := .cells #[.slice A220_0 ((rd_T26 l0 x3_1).f0).length c220_0, .int .i64 ((rd_T26 l0 x3_1).f1), .int .u64 ((rd_T26 l0 x3_1).f2), .int .i64 ((rd_T26 l0 x3_1).f3)] 26 (0, 0)) (by (with_reducible repeat (first | refine blk_drewN ?_ _ | refine blk_drew ?_ | refine blk_alloc ?_ _)); exact BK221.out) hg (Kd.R_ne HO278.out BK221.out (by decide))); have n2_ := Aside0.mk (hp_); have n3_ := Aside0.mk ((by rw [hw]; exact below_set (HB.out) GB120.out : Below w.heap.size w w125)); clear HO_9; clear BK221; clear HO278; clear HB; have HO_9 := n0_; have BK221 := n1_; have HO278 := n2_; have HB := n3_; clear n0_ n1_ n2_ n3_; clear hg hw hp_; have hcz126_0 : w125.cell? ⟨gb221, 0, none⟩ = some (.slice A220_0 ((rd_T26 l0 x3_1).f0).length c220_0) := (blk_cell BK221.out 0).trans rfl; have hcz126_1 : w125.cell? ⟨gb221, 1, none⟩ = some (.int .i64 ((rd_T26 l0 x3_1).f1)) := (blk_cell BK221.out 1).trans rfl; have hcz126_2 : w125.cell? ⟨gb221, 2, none⟩ = some (.int .u64 ((rd_T26 l0 x3_1).f2)) := (blk_cell BK221.out 2).trans rfl; have hcz126_3 : w125.cell? ⟨gb221, 3, none⟩ = some (.int .i64 ((rd_T26 l0 x3_1).f3)) := (blk_cell BK221.out 3).trans rfl; have hfz126_0 := blk_frozen BK221.out 0; have hfz126_1 := blk_frozen BK221.out 1; have hfz126_2 := blk_frozen BK221.out 2; have hfz126_3 := blk_frozen BK221.out 3))
                                 (try simp only [Act.put, List.setIfInBounds_toArray, List.set_cons_zero, List.set_cons_succ])
                                 go_cut [21] (fun v21 wc => ∃ (kq : Nat) (x21_120 : Int), v21 = .int .u8 x21_120 ∧ Aside0 (gangwaylaw1_LebBack.j6 kq l0 x3_1 x9_70 y280 x21_120 ((rd_T26 l0 x3_1).f0) ((rd_T26 l0 x3_1).f1) ((rd_T26 l0 x3_1).f2) ((rd_T26 l0 x3_1).f3) = some r) ∧ Aside0 (kq ≤ kj70) ∧ Aside0 (Kd.R (Kd.int .u8) 5 wc w.heap.size (fun k_ => some k_ ≠ ((.slice (some ⟨go120, 0, none⟩) t276.length co123) : Value).ownBlock) (.slice Ao39 x9_70.length co39) x9_70) ∧ Aside0 (Kd.R (Kd.int .u8) 5 wc w.heap.size (fun k_ => some k_ ≠ ((.slice Ao39 x9_70.length co39) : Value).ownBlock) (.slice (some ⟨go120, 0, none⟩) t276.length co123) y280) ∧ Aside0 (wc.heap[gb221]? = some (.cells #[(.slice A220_0 ((rd_T26 l0 x3_1).f0).length c220_0), .int .i64 ((rd_T26 l0 x3_1).f1), .int .u64 ((rd_T26 l0 x3_1).f2), .int .i64 ((rd_T26 l0 x3_1).f3)] 26 (0, 0))) ∧ Aside0 (Below w.heap.size w wc))
                                 case first =>
                                  have H := HC121.out
                                  clear HC121
                                  by_cases c127 : ((rd_T26 l0 x3_1).f3) < 0
                                  ·rw [if_pos c127] at H
                                   have c127b0 : decide (((rd_T26 l0 x3_1).f3) < 0) = true := decide_eq_true c127
                                   clear c127
                                   (first | rw [c127b0] | (simp only [i64_w, i32_w]; rw [c127b0]) | skip)
                                   have H' := Aside0.mk H
                                   clear H
                                   go_wp2
                                   go_meet
                                   case rel => exact ⟨_, (127), (by first | rfl | (simp; done) | (simp [*]; done)), H', ⟨by have := HK1.out; have := HJ1.out; have := HJ10.out; have := HJ34.out; have := HJ61.out; have := HJ70.out; first | omega | exact Nat.le_refl _⟩, ⟨by (try simp only [hl9_70]); (with_reducible repeat (first | apply Kd.R_alloc | apply Kd.R_drewN | apply Kd.R_drew)); exact Kd.R_mono HO_9.out (fun _ hk => hk.2)⟩, ⟨by (try simp only [hl9_70]); (with_reducible repeat (first | apply Kd.R_alloc | apply Kd.R_drewN | apply Kd.R_drew)); exact HO278.out⟩, ⟨by (try simp only [hl9_70]); (with_reducible repeat (first | refine blk_drewN ?_ _ | refine blk_drew ?_ | refine blk_alloc ?_ _)); exact BK221.out⟩, ⟨by repeat (first | (with_reducible first | exact HB.out | apply below_alloc | apply pw_below_drewN | apply below_drew1 | refine below_set ?_ GE221.out) | exact HB.out)⟩⟩
                                  ·rw [if_neg c127] at H
                                   have c127b0 : decide (((rd_T26 l0 x3_1).f3) < 0) = false := decide_eq_false c127
                                   clear c127
                                   (first | rw [c127b0] | (simp only [i64_w, i32_w]; rw [c127b0]) | skip)
                                   have H' := Aside0.mk H
                                   clear H
                                   go_wp2
                                   go_meet
                                   case rel => exact ⟨_, (0), (by first | rfl | (simp; done) | (simp [*]; done)), H', ⟨by have := HK1.out; have := HJ1.out; have := HJ10.out; have := HJ34.out; have := HJ61.out; have := HJ70.out; first | omega | exact Nat.le_refl _⟩, ⟨by (try simp only [hl9_70]); (with_reducible repeat (first | apply Kd.R_alloc | apply Kd.R_drewN | apply Kd.R_drew)); exact Kd.R_mono HO_9.out (fun _ hk => hk.2)⟩, ⟨by (try simp only [hl9_70]); (with_reducible repeat (first | apply Kd.R_alloc | apply Kd.R_drewN | apply Kd.R_drew)); exact HO278.out⟩, ⟨by (try simp only [hl9_70]); (with_reducible repeat (first | refine blk_drewN ?_ _ | refine blk_drew ?_ | refine blk_alloc ?_ _)); exact BK221.out⟩, ⟨by repeat (first | (with_reducible first | exact HB.out | apply below_alloc | apply pw_below_drewN | apply below_drew1 | refine below_set ?_ GE221.out) | exact HB.out)⟩⟩
                                 case rest =>
                                  as_aux_lemma =>
                                   clear HC121
                                   try clear c1
                                   try clear p1
                                   try clear q1
                                   try clear hx1
                                   try clear hf1
                                   try clear c2
                                   try clear p2
                                   try clear q2
                                   try clear hx2
                                   try clear c3
                                   try clear c3b0
                                   try clear c4
                                   try clear c5
                                   try clear c5b0
                                   try clear c6
                                   try clear c6b0
                                   try clear p6
                                   try clear q6
                                   try clear c7
                                   try clear p7
                                   try clear q7
                                   try clear hx7
                                   try clear hf7
                                   try clear c8
                                   try clear c9
                                   try clear c11
                                   try clear c12
                                   try clear p12
                                   try clear q12
                                   try clear hx12
                                   try clear hf12
                                   try clear c14
                                   try clear c16
                                   try clear c18
                                   try clear c20
                                   try clear c22
                                   try clear c22b0
                                   try clear c22b1
                                   try clear p22
                                   try clear q22
                                   try clear hx22
                                   try clear c23
                                   try clear c23b0
                                   try clear c23b1
                                   try clear c24
                                   try clear c24b0
                                   try clear c24b1
                                   try clear c25
                                   try clear c25b0
                                   try clear p26
                                   try clear q26
                                   try clear hx26
                                   try clear p27
                                   try clear q27
                                   try clear hx27
                                   try clear c30
                                   try clear c33
                                   try clear c45
                                   try clear c45b0
                                   try clear c45b1
                                   try clear c46
                                   try clear c46b0
                                   try clear c46b1
                                   try clear c47
                                   try clear c47b0
                                   try clear c47b1
                                   try clear c48
                                   try clear c48b0
                                   try clear c53
                                   try clear c55
                                   try clear c55b0
                                   try clear c55b1
                                   try clear c56
                                   try clear c56b0
                                   try clear c56b1
                                   try clear c59
                                   try clear c59b0
                                   try clear c59b1
                                   try clear c60
                                   try clear c60b0
                                   try clear c60b1
                                   try clear q63
                                   try clear p64
                                   try clear q65
                                   try clear c68
                                   try clear c68b0
                                   try clear c68b1
                                   try clear c70
                                   try clear c72
                                   try clear c72b0
                                   try clear c72b1
                                   try clear c75
                                   try clear c75b0
                                   try clear c76
                                   try clear c76b0
                                   try clear p77
                                   try clear q77
                                   try clear hx77
                                   try clear hf77
                                   try clear c78
                                   try clear c81
                                   try clear c81b0
                                   try clear c81b1
                                   try clear c82
                                   try clear c82b0
                                   try clear c82b1
                                   try clear c83
                                   try clear c83b0
                                   try clear c83b1
                                   try clear c115
                                   try clear c115b0
                                   try clear c115b1
                                   try clear c118
                                   try clear c118b0
                                   try clear c119
                                   try clear c119b0
                                   try clear p120
                                   try clear q120
                                   try clear hx120
                                   try clear hf120
                                   try clear c127
                                   try clear c127b0
                                   try clear hcz107_0
                                   try clear hcz107_1
                                   try clear hcz107_2
                                   try clear hcz107_3
                                   try clear hcz126_0
                                   try clear hcz126_1
                                   try clear hcz126_2
                                   try clear hcz126_3
                                   try clear hcz13_0
                                   try clear hcz13_1
                                   try clear hcz13_2
                                   try clear hcz13_3
                                   try clear hcz26_0
                                   try clear hcz26_1
                                   try clear hcz26_2
                                   try clear hcz26_3
                                   try clear hcz27_0
                                   try clear hcz27_1
                                   try clear hcz27_2
                                   try clear hcz27_3
                                   try clear hcz28_0
                                   try clear hcz28_1
                                   try clear hcz28_2
                                   try clear hcz28_3
                                   try clear hcz29_0
                                   try clear hcz29_1
                                   try clear hcz29_2
                                   try clear hcz29_3
                                   try clear hcz36_0
                                   try clear hcz36_1
                                   try clear hcz36_2
                                   try clear hcz36_3
                                   try clear hcz49_0
                                   try clear hcz49_1
                                   try clear hcz49_2
                                   try clear hcz49_3
                                   try clear hcz50_0
                                   try clear hcz50_1
                                   try clear hcz50_2
                                   try clear hcz50_3
                                   try clear hcz51_0
                                   try clear hcz51_1
                                   try clear hcz51_2
                                   try clear hcz51_3
                                   try clear hcz52_0
                                   try clear hcz52_1
                                   try clear hcz52_2
                                   try clear hcz52_3
                                   try clear hcz91_0
                                   try clear hcz91_1
                                   try clear hcz91_2
                                   try clear hcz91_3
                                   try clear hcz99_0
                                   try clear hcz99_1
                                   try clear hcz99_2
                                   try clear hcz99_3
                                   try clear hfz107_0
                                   try clear hfz107_1
                                   try clear hfz107_2
                                   try clear hfz107_3
                                   try clear hfz126_0
                                   try clear hfz126_1
                                   try clear hfz126_2
                                   try clear hfz126_3
                                   try clear hfz13_0
                                   try clear hfz13_1
                                   try clear hfz13_2
                                   try clear hfz13_3
                                   try clear hfz26_0
                                   try clear hfz26_1
                                   try clear hfz26_2
                                   try clear hfz26_3
                                   try clear hfz27_0
                                   try clear hfz27_1
                                   try clear hfz27_2
                                   try clear hfz27_3
                                   try clear hfz28_0
                                   try clear hfz28_1
                                   try clear hfz28_2
                                   try clear hfz28_3
                                   try clear hfz29_0
                                   try clear hfz29_1
                                   try clear hfz29_2
                                   try clear hfz29_3
                                   try clear hfz36_0
                                   try clear hfz36_1
                                   try clear hfz36_2
                                   try clear hfz36_3
                                   try clear hfz49_0
                                   try clear hfz49_1
                                   try clear hfz49_2
                                   try clear hfz49_3
                                   try clear hfz50_0
                                   try clear hfz50_1
                                   try clear hfz50_2
                                   try clear hfz50_3
                                   try clear hfz51_0
                                   try clear hfz51_1
                                   try clear hfz51_2
                                   try clear hfz51_3
                                   try clear hfz52_0
                                   try clear hfz52_1
                                   try clear hfz52_2
                                   try clear hfz52_3
                                   try clear hfz91_0
                                   try clear hfz91_1
                                   try clear hfz91_2
                                   try clear hfz91_3
                                   try clear hfz99_0
                                   try clear hfz99_1
                                   try clear hfz99_2
                                   try clear hfz99_3
                                   try clear hx120_0
                                   try clear hx220_0
                                   try clear hx220_1
                                   try clear hx220_2
                                   try clear hx220_3
                                   try clear hx267_0
                                   try clear hx279_0
                                   try clear hx77_0
                                   try clear p120
                                   try clear p2
                                   try clear p22
                                   try clear p220
                                   try clear p26
                                   try clear p267
                                   try clear p279
                                   try clear p6
                                   try clear p64
                                   try clear p7
                                   try clear p77
                                   try clear q120
                                   try clear q2
                                   try clear q22
                                   try clear q220
                                   try clear q26
                                   try clear q267
                                   try clear q279
                                   try clear q6
                                   try clear q63
                                   try clear q65
                                   try clear q7
                                   try clear q77
                                   obtain ⟨kq, x21_120, rfl, HA, HJ120, HO_9, HO_20, BK221, HB⟩ := hcut
                                   have hl20_120 := (Kd.R_reads' HO_20.out).1
                                   rw [hl20_120] at HO_20
                                   (try simp only [hl20_120])
                                   (try simp only [hl20_120] at BK221)
                                   (try simp only [hl20_120] at HO_9)
                                   cases kq with
                                   | zero => exact absurd HA.out (by simp [gangwaylaw1_LebBack.j6])
                                   | succ kj120 =>
                                    have H := HA.out
                                    clear HA
                                    simp only [gangwaylaw1_LebBack.j6] at H
                                    by_cases c128 : y280.length < 140737488355328
                                    ·rw [if_pos c128] at H
                                     have LMc128 := Aside0.mk c128
                                     clear c128
                                     obtain ⟨y281, hy281⟩ : ∃ y_ : List Int, y_ = (y280 ++ [x21_120]) := ⟨_, rfl⟩
                                     replace H : ((leb_Sint.f kj120 y281 64).bind fun bt284 => ((gangwaylaw1_num.f bt284.2.2).bind fun t287 => (if t287 = 0 then (if bt284.1 = ((rd_T26 l0 x3_1).f3) then (if bt284.2.1 = (wrap64 ((x9_70.length : Int) + 1)) then (gangwaylaw1_LebBack.l0 kj120 l0 (wrap64 (x3_1 + 1))) else (some false)) else (some false)) else (some false)))) = some r := by first | (rw [hy281]; with_reducible exact H) | (have H2_ := (Option.bind_some _ _).symm.trans H; rw [hy281]; with_reducible exact H2_) | (have H2_ := (Option.bind_some _ _).symm.trans H; with_reducible exact H2_) | with_reducible exact H | (rw [hy281]; exact H) | exact H
                                     have Ny281 := Aside0.mk hy281
                                     clear hy281
                                     replace H := Option.bind_eq_some_iff.mp H
                                     obtain ⟨⟨t284, t285, t286⟩, A1290, H⟩ := H
                                     replace H : ((gangwaylaw1_num.f t286).bind fun t287 => (if t287 = 0 then (if t284 = ((rd_T26 l0 x3_1).f3) then (if t285 = (wrap64 ((x9_70.length : Int) + 1)) then (gangwaylaw1_LebBack.l0 kj120 l0 (wrap64 (x3_1 + 1))) else (some false)) else (some false)) else (some false))) = some r := H
                                     have A129 := Aside0.mk A1290
                                     clear A1290
                                     replace H := Option.bind_eq_some_iff.mp H
                                     obtain ⟨t287, A1300, H⟩ := H
                                     replace H : (if t287 = 0 then (if t284 = ((rd_T26 l0 x3_1).f3) then (if t285 = (wrap64 ((x9_70.length : Int) + 1)) then (gangwaylaw1_LebBack.l0 kj120 l0 (wrap64 (x3_1 + 1))) else (some false)) else (some false)) else (some false)) = some r := H
                                     have A130 := Aside0.mk A1300
                                     clear A1300
                                     by_cases c131 : t287 = 0
                                     ·rw [if_pos c131] at H
                                      have c131b0 : (t287 == 0) = true := beq_iff_eq.mpr c131
                                      have c131b1 : (t287 != 0) = false := bne_eq_false_iff_eq.mpr c131
                                      clear c131
                                      by_cases c132 : t284 = ((rd_T26 l0 x3_1).f3)
                                      ·rw [if_pos c132] at H
                                       have c132b0 : (t284 == ((rd_T26 l0 x3_1).f3)) = true := beq_iff_eq.mpr c132
                                       have c132b1 : (t284 != ((rd_T26 l0 x3_1).f3)) = false := bne_eq_false_iff_eq.mpr c132
                                       clear c132
                                       by_cases c133 : t285 = (wrap64 ((x9_70.length : Int) + 1))
                                       ·rw [if_pos c133] at H
                                        have c133b0 : (t285 == (wrap64 ((x9_70.length : Int) + 1))) = true := beq_iff_eq.mpr c133
                                        have c133b1 : (t285 != (wrap64 ((x9_70.length : Int) + 1))) = false := bne_eq_false_iff_eq.mpr c133
                                        clear c133
                                        have H' := Aside0.mk H
                                        clear H
                                        go_wp2_with (first | ((with_reducible refine gate_builtin (b := .append) (xs := #[.tmp 198, .tmp 200]) rfl ?_); (try (refine gate_guard (by rfl) ?_; dsimp only)); at_builtin; refine Kd.R_append (Kd.int .u8) (w0 := w) w.heap.size rfl (.tmp 198) (.tmp 200) 23 5 (.int .u8 0) 1 rfl Try.underlying23 info5 rfl (by decide) (by omega) (.slice (some ⟨go120, 0, none⟩) y280.length co123) y280 x21_120 [.int .u8 x21_120] (fun k_ => some k_ ≠ (.slice Ao39 x9_70.length co39 : Value).ownBlock) (fun _ => False) rfl rfl ?aP (fun _ hk => hk.elim) ?aF ?aO ?aB ?aS ?aL ?_; (case aP => exact rfl); (case aB => exact (by repeat (first | (with_reducible first | exact HB.out | apply below_alloc | apply pw_below_drewN | apply below_drew1 | refine below_set ?_ GE221.out) | exact HB.out))); (case aF => exact (fun k_ hk => Kd.fresh' (Kd.R_lt (by (with_reducible repeat (first | apply Kd.R_alloc | apply Kd.R_drewN | apply Kd.R_drew)); exact HO_9.out)) k_ hk)); (case aO => exact (by (with_reducible repeat (first | apply Kd.R_alloc | apply Kd.R_drewN | apply Kd.R_drew)); exact HO_20.out)); (case aS => exact (below_size (by repeat (first | (with_reducible first | exact HB.out | apply below_alloc | apply pw_below_drewN | apply below_drew1 | refine below_set ?_ GE221.out) | exact HB.out)))); (case aL => have := LMc128.out; omega); intro v282 w134 ho hb hg hat; rw [← Ny281.out] at ho; have n0_ := Aside0.mk (Kd.R_after (ok := (fun _ => True)) (by (with_reducible repeat (first | apply Kd.R_alloc | apply Kd.R_drewN | apply Kd.R_drew)); exact Kd.R_mono HO_9.out (fun _ hk => ⟨trivial, hk⟩)) hg hat); have n1_ := Aside0.mk (blk_grown (g := gb221) (o := .cells #[.slice A220_0 ((rd_T26 l0 x3_1).f0).length c220_0, .int .i64 ((rd_T26 l0 x3_1).f1), .int .u64 ((rd_T26 l0 x3_1).f2), .int .i64 ((rd_T26 l0 x3_1).f3)] 26 (0, 0)) (by (with_reducible repeat (first | refine blk_drewN ?_ _ | refine blk_drew ?_ | refine blk_alloc ?_ _)); exact BK221.out) hg (Kd.R_ne HO_20.out BK221.out (by decide))); have n2_ := Aside0.mk (hb); have n3_ := Aside0.mk (ho); clear HO_9; clear BK221; clear HB; clear HO_20; have HO_9 := n0_; have BK221 := n1_; have HB := n2_; have HO283 := n3_; clear n0_ n1_ n2_ n3_; clear ho hb hg hat; obtain ⟨Ao135, co135, eo135⟩ := Kd.R_slice HO283.out; subst eo135) | ((with_reducible refine gate_callee (f := 18) rfl ?_); refine goesL_ (some 202) rfl rfl Try.func18 (by kernel_rfl) rfl #[.slice Ao135 y281.length co135, .int .i64 64] rfl (by (try simp only [List.map_toArray, List.map_cons, List.map_nil]); first | done | rfl | (simp only [List.length_drop, List.length_take]; rfl)) ?_; (with_reducible refine (leb_Sint.calls kj120 _ _ y281 64 t284 t285 t286 _ ?side1 ?side2 A129.out).mono ?_); (case side1 => repeat (first | exact (Kd.R_reads' HO283.out).2.2 | (with_reducible refine Kd.C_alloc ?_ _) | (with_reducible refine Kd.C_drewN ?_ _) | (with_reducible refine Kd.C_drew ?_))); (case side2 => exact (Kd.R_reads' HO283.out).2.1); rintro e w136 ⟨rfl, hb⟩; refine ⟨_, rfl, ?_⟩; have n0_ := Aside0.mk (Kd.R_below (by (with_reducible repeat (first | apply Kd.R_alloc | apply Kd.R_drewN | apply Kd.R_drew)); exact HO_9.out) hb); have n1_ := Aside0.mk (Kd.R_below (by (with_reducible repeat (first | apply Kd.R_alloc | apply Kd.R_drewN | apply Kd.R_drew)); exact HO283.out) hb); have n2_ := Aside0.mk (blk_below (g := gb221) (o := .cells #[.slice A220_0 ((rd_T26 l0 x3_1).f0).length c220_0, .int .i64 ((rd_T26 l0 x3_1).f1), .int .u64 ((rd_T26 l0 x3_1).f2), .int .i64 ((rd_T26 l0 x3_1).f3)] 26 (0, 0)) (by (with_reducible repeat (first | refine blk_drewN ?_ _ | refine blk_drew ?_ | refine blk_alloc ?_ _)); exact BK221.out) hb); have n3_ := Aside0.mk (below_step (by repeat (first | (with_reducible first | exact HB.out | apply below_alloc | apply pw_below_drewN | apply below_drew1 | refine below_set ?_ GE221.out) | exact HB.out)) hb); clear HO_9; clear HO283; clear BK221; clear HB; have HO_9 := n0_; have HO283 := n1_; have BK221 := n2_; have HB := n3_; clear n0_ n1_ n2_ n3_; (try clear hb); (try clear hb2); (try clear hk); (try clear hi)) | ((with_reducible refine gate_callee (f := 11) rfl ?_); refine goesL_ (some 207) rfl rfl Try.func11 (by kernel_rfl) rfl #[.int .i64 t286] rfl (by (try simp only [List.map_toArray, List.map_cons, List.map_nil]); first | done | rfl | (simp only [List.length_drop, List.length_take]; rfl)) ?_; (with_reducible refine (gangwaylaw1_num.calls t286 t287 _ A130.out).mono ?_); rintro e w' ⟨rfl, ⟨nd, rfl⟩⟩; refine ⟨_, rfl, ?_⟩; have hcz137_0 : w136.cell? ⟨gb221, 0, none⟩ = some (.slice A220_0 ((rd_T26 l0 x3_1).f0).length c220_0) := (blk_cell BK221.out 0).trans rfl; have hcz137_1 : w136.cell? ⟨gb221, 1, none⟩ = some (.int .i64 ((rd_T26 l0 x3_1).f1)) := (blk_cell BK221.out 1).trans rfl; have hcz137_2 : w136.cell? ⟨gb221, 2, none⟩ = some (.int .u64 ((rd_T26 l0 x3_1).f2)) := (blk_cell BK221.out 2).trans rfl; have hcz137_3 : w136.cell? ⟨gb221, 3, none⟩ = some (.int .i64 ((rd_T26 l0 x3_1).f3)) := (blk_cell BK221.out 3).trans rfl; have hfz137_0 := blk_frozen BK221.out 0; have hfz137_1 := blk_frozen BK221.out 1; have hfz137_2 := blk_frozen BK221.out 2; have hfz137_3 := blk_frozen BK221.out 3))
                                        (try simp only [← hl9_70, ← hl20_120])
                                        go_roundg kj120
                                        case measure => have := HK1.out; have := HJ1.out; have := HJ10.out; have := HJ34.out; have := HJ61.out; have := HJ70.out; have := HJ120.out; omega
                                        case rel => exact ⟨(wrap64 (x3_1 + 1)), (by first | rfl | (simp; done) | (simp [*]; done)), H', ⟨by have := HK1.out; have := HJ1.out; have := HJ10.out; have := HJ34.out; have := HJ61.out; have := HJ70.out; have := HJ120.out; omega⟩, ⟨by repeat (first | (with_reducible first | exact HB.out | apply below_alloc | apply pw_below_drewN | apply below_drew1 | refine below_set ?_ GE221.out) | exact HB.out)⟩⟩
                                       ·rw [if_neg c133] at H
                                        have c133b0 : (t285 == (wrap64 ((x9_70.length : Int) + 1))) = false := beq_eq_false_iff_ne.mpr c133
                                        have c133b1 : (t285 != (wrap64 ((x9_70.length : Int) + 1))) = true := bne_iff_ne.mpr c133
                                        obtain rfl := Option.some.inj H
                                        go_wp2_with (first | ((with_reducible refine gate_builtin (b := .append) (xs := #[.tmp 198, .tmp 200]) rfl ?_); (try (refine gate_guard (by rfl) ?_; dsimp only)); at_builtin; refine Kd.R_append (Kd.int .u8) (w0 := w) w.heap.size rfl (.tmp 198) (.tmp 200) 23 5 (.int .u8 0) 1 rfl Try.underlying23 info5 rfl (by decide) (by omega) (.slice (some ⟨go120, 0, none⟩) y280.length co123) y280 x21_120 [.int .u8 x21_120] (fun k_ => some k_ ≠ (.slice Ao39 x9_70.length co39 : Value).ownBlock) (fun _ => False) rfl rfl ?aP (fun _ hk => hk.elim) ?aF ?aO ?aB ?aS ?aL ?_; (case aP => exact rfl); (case aB => exact (by repeat (first | (with_reducible first | exact HB.out | apply below_alloc | apply pw_below_drewN | apply below_drew1 | refine below_set ?_ GE221.out) | exact HB.out))); (case aF => exact (fun k_ hk => Kd.fresh' (Kd.R_lt (by (with_reducible repeat (first | apply Kd.R_alloc | apply Kd.R_drewN | apply Kd.R_drew)); exact HO_9.out)) k_ hk)); (case aO => exact (by (with_reducible repeat (first | apply Kd.R_alloc | apply Kd.R_drewN | apply Kd.R_drew)); exact HO_20.out)); (case aS => exact (below_size (by repeat (first | (with_reducible first | exact HB.out | apply below_alloc | apply pw_below_drewN | apply below_drew1 | refine below_set ?_ GE221.out) | exact HB.out)))); (case aL => have := LMc128.out; omega); intro v282 w138 ho hb hg hat; rw [← Ny281.out] at ho; have n0_ := Aside0.mk (Kd.R_after (ok := (fun _ => True)) (by (with_reducible repeat (first | apply Kd.R_alloc | apply Kd.R_drewN | apply Kd.R_drew)); exact Kd.R_mono HO_9.out (fun _ hk => ⟨trivial, hk⟩)) hg hat); have n1_ := Aside0.mk (blk_grown (g := gb221) (o := .cells #[.slice A220_0 ((rd_T26 l0 x3_1).f0).length c220_0, .int .i64 ((rd_T26 l0 x3_1).f1), .int .u64 ((rd_T26 l0 x3_1).f2), .int .i64 ((rd_T26 l0 x3_1).f3)] 26 (0, 0)) (by (with_reducible repeat (first | refine blk_drewN ?_ _ | refine blk_drew ?_ | refine blk_alloc ?_ _)); exact BK221.out) hg (Kd.R_ne HO_20.out BK221.out (by decide))); have n2_ := Aside0.mk (hb); have n3_ := Aside0.mk (ho); clear HO_9; clear BK221; clear HB; clear HO_20; have HO_9 := n0_; have BK221 := n1_; have HB := n2_; have HO283 := n3_; clear n0_ n1_ n2_ n3_; clear ho hb hg hat; obtain ⟨Ao139, co139, eo139⟩ := Kd.R_slice HO283.out; subst eo139) | ((with_reducible refine gate_callee (f := 18) rfl ?_); refine goesL_ (some 202) rfl rfl Try.func18 (by kernel_rfl) rfl #[.slice Ao139 y281.length co139, .int .i64 64] rfl (by (try simp only [List.map_toArray, List.map_cons, List.map_nil]); first | done | rfl | (simp only [List.length_drop, List.length_take]; rfl)) ?_; (with_reducible refine (leb_Sint.calls kj120 _ _ y281 64 t284 t285 t286 _ ?side1 ?side2 A129.out).mono ?_); (case side1 => repeat (first | exact (Kd.R_reads' HO283.out).2.2 | (with_reducible refine Kd.C_alloc ?_ _) | (with_reducible refine Kd.C_drewN ?_ _) | (with_reducible refine Kd.C_drew ?_))); (case side2 => exact (Kd.R_reads' HO283.out).2.1); rintro e w140 ⟨rfl, hb⟩; refine ⟨_, rfl, ?_⟩; have n0_ := Aside0.mk (Kd.R_below (by (with_reducible repeat (first | apply Kd.R_alloc | apply Kd.R_drewN | apply Kd.R_drew)); exact HO_9.out) hb); have n1_ := Aside0.mk (Kd.R_below (by (with_reducible repeat (first | apply Kd.R_alloc | apply Kd.R_drewN | apply Kd.R_drew)); exact HO283.out) hb); have n2_ := Aside0.mk (blk_below (g := gb221) (o := .cells #[.slice A220_0 ((rd_T26 l0 x3_1).f0).length c220_0, .int .i64 ((rd_T26 l0 x3_1).f1), .int .u64 ((rd_T26 l0 x3_1).f2), .int .i64 ((rd_T26 l0 x3_1).f3)] 26 (0, 0)) (by (with_reducible repeat (first | refine blk_drewN ?_ _ | refine blk_drew ?_ | refine blk_alloc ?_ _)); exact BK221.out) hb); have n3_ := Aside0.mk (below_step (by repeat (first | (with_reducible first | exact HB.out | apply below_alloc | apply pw_below_drewN | apply below_drew1 | refine below_set ?_ GE221.out) | exact HB.out)) hb); clear HO_9; clear HO283; clear BK221; clear HB; have HO_9 := n0_; have HO283 := n1_; have BK221 := n2_; have HB := n3_; clear n0_ n1_ n2_ n3_; (try clear hb); (try clear hb2); (try clear hk); (try clear hi)) | ((with_reducible refine gate_callee (f := 11) rfl ?_); refine goesL_ (some 207) rfl rfl Try.func11 (by kernel_rfl) rfl #[.int .i64 t286] rfl (by (try simp only [List.map_toArray, List.map_cons, List.map_nil]); first | done | rfl | (simp only [List.length_drop, List.length_take]; rfl)) ?_; (with_reducible refine (gangwaylaw1_num.calls t286 t287 _ A130.out).mono ?_); rintro e w' ⟨rfl, ⟨nd, rfl⟩⟩; refine ⟨_, rfl, ?_⟩; have hcz141_0 : w140.cell? ⟨gb221, 0, none⟩ = some (.slice A220_0 ((rd_T26 l0 x3_1).f0).length c220_0) := (blk_cell BK221.out 0).trans rfl; have hcz141_1 : w140.cell? ⟨gb221, 1, none⟩ = some (.int .i64 ((rd_T26 l0 x3_1).f1)) := (blk_cell BK221.out 1).trans rfl; have hcz141_2 : w140.cell? ⟨gb221, 2, none⟩ = some (.int .u64 ((rd_T26 l0 x3_1).f2)) := (blk_cell BK221.out 2).trans rfl; have hcz141_3 : w140.cell? ⟨gb221, 3, none⟩ = some (.int .i64 ((rd_T26 l0 x3_1).f3)) := (blk_cell BK221.out 3).trans rfl; have hfz141_0 := blk_frozen BK221.out 0; have hfz141_1 := blk_frozen BK221.out 1; have hfz141_2 := blk_frozen BK221.out 2; have hfz141_3 := blk_frozen BK221.out 3))
                                        go_ret
                                        exact ⟨by first | rfl | (simp [errW_none, errW_some] <;> rfl) | (simp only [← hji54, ← hji58, ← hji117]; first | rfl | (simp [errW_none, errW_some] <;> rfl)) | (simp [*, errW_none, errW_some] <;> rfl), by repeat (first | (with_reducible first | exact HB.out | apply below_alloc | apply pw_below_drewN | apply below_drew1 | refine below_set ?_ GE221.out) | exact HB.out)⟩
                                      ·rw [if_neg c132] at H
                                       have c132b0 : (t284 == ((rd_T26 l0 x3_1).f3)) = false := beq_eq_false_iff_ne.mpr c132
                                       have c132b1 : (t284 != ((rd_T26 l0 x3_1).f3)) = true := bne_iff_ne.mpr c132
                                       obtain rfl := Option.some.inj H
                                       go_wp2_with (first | ((with_reducible refine gate_builtin (b := .append) (xs := #[.tmp 198, .tmp 200]) rfl ?_); (try (refine gate_guard (by rfl) ?_; dsimp only)); at_builtin; refine Kd.R_append (Kd.int .u8) (w0 := w) w.heap.size rfl (.tmp 198) (.tmp 200) 23 5 (.int .u8 0) 1 rfl Try.underlying23 info5 rfl (by decide) (by omega) (.slice (some ⟨go120, 0, none⟩) y280.length co123) y280 x21_120 [.int .u8 x21_120] (fun k_ => some k_ ≠ (.slice Ao39 x9_70.length co39 : Value).ownBlock) (fun _ => False) rfl rfl ?aP (fun _ hk => hk.elim) ?aF ?aO ?aB ?aS ?aL ?_; (case aP => exact rfl); (case aB => exact (by repeat (first | (with_reducible first | exact HB.out | apply below_alloc | apply pw_below_drewN | apply below_drew1 | refine below_set ?_ GE221.out) | exact HB.out))); (case aF => exact (fun k_ hk => Kd.fresh' (Kd.R_lt (by (with_reducible repeat (first | apply Kd.R_alloc | apply Kd.R_drewN | apply Kd.R_drew)); exact HO_9.out)) k_ hk)); (case aO => exact (by (with_reducible repeat (first | apply Kd.R_alloc | apply Kd.R_drewN | apply Kd.R_drew)); exact HO_20.out)); (case aS => exact (below_size (by repeat (first | (with_reducible first | exact HB.out | apply below_alloc | apply pw_below_drewN | apply below_drew1 | refine below_set ?_ GE221.out) | exact HB.out)))); (case aL => have := LMc128.out; omega); intro v282 w142 ho hb hg hat; rw [← Ny281.out] at ho; have n0_ := Aside0.mk (Kd.R_after (ok := (fun _ => True)) (by (with_reducible repeat (first | apply Kd.R_alloc | apply Kd.R_drewN | apply Kd.R_drew)); exact Kd.R_mono HO_9.out (fun _ hk => ⟨trivial, hk⟩)) hg hat); have n1_ := Aside0.mk (blk_grown (g := gb221) (o := .cells #[.slice A220_0 ((rd_T26 l0 x3_1).f0).length c220_0, .int .i64 ((rd_T26 l0 x3_1).f1), .int .u64 ((rd_T26 l0 x3_1).f2), .int .i64 ((rd_T26 l0 x3_1).f3)] 26 (0, 0)) (by (with_reducible repeat (first | refine blk_drewN ?_ _ | refine blk_drew ?_ | refine blk_alloc ?_ _)); exact BK221.out) hg (Kd.R_ne HO_20.out BK221.out (by decide))); have n2_ := Aside0.mk (hb); have n3_ := Aside0.mk (ho); clear HO_9; clear BK221; clear HB; clear HO_20; have HO_9 := n0_; have BK221 := n1_; have HB := n2_; have HO283 := n3_; clear n0_ n1_ n2_ n3_; clear ho hb hg hat; obtain ⟨Ao143, co143, eo143⟩ := Kd.R_slice HO283.out; subst eo143) | ((with_reducible refine gate_callee (f := 18) rfl ?_); refine goesL_ (some 202) rfl rfl Try.func18 (by kernel_rfl) rfl #[.slice Ao143 y281.length co143, .int .i64 64] rfl (by (try simp only [List.map_toArray, List.map_cons, List.map_nil]); first | done | rfl | (simp only [List.length_drop, List.length_take]; rfl)) ?_; (with_reducible refine (leb_Sint.calls kj120 _ _ y281 64 t284 t285 t286 _ ?side1 ?side2 A129.out).mono ?_); (case side1 => repeat (first | exact (Kd.R_reads' HO283.out).2.2 | (with_reducible refine Kd.C_alloc ?_ _) | (with_reducible refine Kd.C_drewN ?_ _) | (with_reducible refine Kd.C_drew ?_))); (case side2 => exact (Kd.R_reads' HO283.out).2.1); rintro e w144 ⟨rfl, hb⟩; refine ⟨_, rfl, ?_⟩; have n0_ := Aside0.mk (Kd.R_below (by (with_reducible repeat (first | apply Kd.R_alloc | apply Kd.R_drewN | apply Kd.R_drew)); exact HO_9.out) hb); have n1_ := Aside0.mk (Kd.R_below (by (with_reducible repeat (first | apply Kd.R_alloc | apply Kd.R_drewN | apply Kd.R_drew)); exact HO283.out) hb); have n2_ := Aside0.mk (blk_below (g := gb221) (o := .cells #[.slice A220_0 ((rd_T26 l0 x3_1).f0).length c220_0, .int .i64 ((rd_T26 l0 x3_1).f1), .int .u64 ((rd_T26 l0 x3_1).f2), .int .i64 ((rd_T26 l0 x3_1).f3)] 26 (0, 0)) (by (with_reducible repeat (first | refine blk_drewN ?_ _ | refine blk_drew ?_ | refine blk_alloc ?_ _)); exact BK221.out) hb); have n3_ := Aside0.mk (below_step (by repeat (first | (with_reducible first | exact HB.out | apply below_alloc | apply pw_below_drewN | apply below_drew1 | refine below_set ?_ GE221.out) | exact HB.out)) hb); clear HO_9; clear HO283; clear BK221; clear HB; have HO_9 := n0_; have HO283 := n1_; have BK221 := n2_; have HB := n3_; clear n0_ n1_ n2_ n3_; (try clear hb); (try clear hb2); (try clear hk); (try clear hi)) | ((with_reducible refine gate_callee (f := 11) rfl ?_); refine goesL_ (some 207) rfl rfl Try.func11 (by kernel_rfl) rfl #[.int .i64 t286] rfl (by (try simp only [List.map_toArray, List.map_cons, List.map_nil]); first | done | rfl | (simp only [List.length_drop, List.length_take]; rfl)) ?_; (with_reducible refine (gangwaylaw1_num.calls t286 t287 _ A130.out).mono ?_); rintro e w' ⟨rfl, ⟨nd, rfl⟩⟩; refine ⟨_, rfl, ?_⟩; have hcz145_0 : w144.cell? ⟨gb221, 0, none⟩ = some (.slice A220_0 ((rd_T26 l0 x3_1).f0).length c220_0) := (blk_cell BK221.out 0).trans rfl; have hcz145_1 : w144.cell? ⟨gb221, 1, none⟩ = some (.int .i64 ((rd_T26 l0 x3_1).f1)) := (blk_cell BK221.out 1).trans rfl; have hcz145_2 : w144.cell? ⟨gb221, 2, none⟩ = some (.int .u64 ((rd_T26 l0 x3_1).f2)) := (blk_cell BK221.out 2).trans rfl; have hcz145_3 : w144.cell? ⟨gb221, 3, none⟩ = some (.int .i64 ((rd_T26 l0 x3_1).f3)) := (blk_cell BK221.out 3).trans rfl; have hfz145_0 := blk_frozen BK221.out 0; have hfz145_1 := blk_frozen BK221.out 1; have hfz145_2 := blk_frozen BK221.out 2; have hfz145_3 := blk_frozen BK221.out 3))
                                       go_ret
                                       exact ⟨by first | rfl | (simp [errW_none, errW_some] <;> rfl) | (simp only [← hji54, ← hji58, ← hji117]; first | rfl | (simp [errW_none, errW_some] <;> rfl)) | (simp [*, errW_none, errW_some] <;> rfl), by repeat (first | (with_reducible first | exact HB.out | apply below_alloc | apply pw_below_drewN | apply below_drew1 | refine below_set ?_ GE221.out) | exact HB.out)⟩
                                     ·rw [if_neg c131] at H
                                      have c131b0 : (t287 == 0) = false := beq_eq_false_iff_ne.mpr c131
                                      have c131b1 : (t287 != 0) = true := bne_iff_ne.mpr c131
                                      obtain rfl := Option.some.inj H
                                      go_wp2_with (first | ((with_reducible refine gate_builtin (b := .append) (xs := #[.tmp 198, .tmp 200]) rfl ?_); (try (refine gate_guard (by rfl) ?_; dsimp only)); at_builtin; refine Kd.R_append (Kd.int .u8) (w0 := w) w.heap.size rfl (.tmp 198) (.tmp 200) 23 5 (.int .u8 0) 1 rfl Try.underlying23 info5 rfl (by decide) (by omega) (.slice (some ⟨go120, 0, none⟩) y280.length co123) y280 x21_120 [.int .u8 x21_120] (fun k_ => some k_ ≠ (.slice Ao39 x9_70.length co39 : Value).ownBlock) (fun _ => False) rfl rfl ?aP (fun _ hk => hk.elim) ?aF ?aO ?aB ?aS ?aL ?_; (case aP => exact rfl); (case aB => exact (by repeat (first | (with_reducible first | exact HB.out | apply below_alloc | apply pw_below_drewN | apply below_drew1 | refine below_set ?_ GE221.out) | exact HB.out))); (case aF => exact (fun k_ hk => Kd.fresh' (Kd.R_lt (by (with_reducible repeat (first | apply Kd.R_alloc | apply Kd.R_drewN | apply Kd.R_drew)); exact HO_9.out)) k_ hk)); (case aO => exact (by (with_reducible repeat (first | apply Kd.R_alloc | apply Kd.R_drewN | apply Kd.R_drew)); exact HO_20.out)); (case aS => exact (below_size (by repeat (first | (with_reducible first | exact HB.out | apply below_alloc | apply pw_below_drewN | apply below_drew1 | refine below_set ?_ GE221.out) | exact HB.out)))); (case aL => have := LMc128.out; omega); intro v282 w146 ho hb hg hat; rw [← Ny281.out] at ho; have n0_ := Aside0.mk (Kd.R_after (ok := (fun _ => True)) (by (with_reducible repeat (first | apply Kd.R_alloc | apply Kd.R_drewN | apply Kd.R_drew)); exact Kd.R_mono HO_9.out (fun _ hk => ⟨trivial, hk⟩)) hg hat); have n1_ := Aside0.mk (blk_grown (g := gb221) (o := .cells #[.slice A220_0 ((rd_T26 l0 x3_1).f0).length c220_0, .int .i64 ((rd_T26 l0 x3_1).f1), .int .u64 ((rd_T26 l0 x3_1).f2), .int .i64 ((rd_T26 l0 x3_1).f3)] 26 (0, 0)) (by (with_reducible repeat (first | refine blk_drewN ?_ _ | refine blk_drew ?_ | refine blk_alloc ?_ _)); exact BK221.out) hg (Kd.R_ne HO_20.out BK221.out (by decide))); have n2_ := Aside0.mk (hb); have n3_ := Aside0.mk (ho); clear HO_9; clear BK221; clear HB; clear HO_20; have HO_9 := n0_; have BK221 := n1_; have HB := n2_; have HO283 := n3_; clear n0_ n1_ n2_ n3_; clear ho hb hg hat; obtain ⟨Ao147, co147, eo147⟩ := Kd.R_slice HO283.out; subst eo147) | ((with_reducible refine gate_callee (f := 18) rfl ?_); refine goesL_ (some 202) rfl rfl Try.func18 (by kernel_rfl) rfl #[.slice Ao147 y281.length co147, .int .i64 64] rfl (by (try simp only [List.map_toArray, List.map_cons, List.map_nil]); first | done | rfl | (simp only [List.length_drop, List.length_take]; rfl)) ?_; (with_reducible refine (leb_Sint.calls kj120 _ _ y281 64 t284 t285 t286 _ ?side1 ?side2 A129.out).mono ?_); (case side1 => repeat (first | exact (Kd.R_reads' HO283.out).2.2 | (with_reducible refine Kd.C_alloc ?_ _) | (with_reducible refine Kd.C_drewN ?_ _) | (with_reducible refine Kd.C_drew ?_))); (case side2 => exact (Kd.R_reads' HO283.out).2.1); rintro e w148 ⟨rfl, hb⟩; refine ⟨_, rfl, ?_⟩; have n0_ := Aside0.mk (Kd.R_below (by (with_reducible repeat (first | apply Kd.R_alloc | apply Kd.R_drewN | apply Kd.R_drew)); exact HO_9.out) hb); have n1_ := Aside0.mk (Kd.R_below (by (with_reducible repeat (first | apply Kd.R_alloc | apply Kd.R_drewN | apply Kd.R_drew)); exact HO283.out) hb); have n2_ := Aside0.mk (blk_below (g := gb221) (o := .cells #[.slice A220_0 ((rd_T26 l0 x3_1).f0).length c220_0, .int .i64 ((rd_T26 l0 x3_1).f1), .int .u64 ((rd_T26 l0 x3_1).f2), .int .i64 ((rd_T26 l0 x3_1).f3)] 26 (0, 0)) (by (with_reducible repeat (first | refine blk_drewN ?_ _ | refine blk_drew ?_ | refine blk_alloc ?_ _)); exact BK221.out) hb); have n3_ := Aside0.mk (below_step (by repeat (first | (with_reducible first | exact HB.out | apply below_alloc | apply pw_below_drewN | apply below_drew1 | refine below_set ?_ GE221.out) | exact HB.out)) hb); clear HO_9; clear HO283; clear BK221; clear HB; have HO_9 := n0_; have HO283 := n1_; have BK221 := n2_; have HB := n3_; clear n0_ n1_ n2_ n3_; (try clear hb); (try clear hb2); (try clear hk); (try clear hi)) | ((with_reducible refine gate_callee (f := 11) rfl ?_); refine goesL_ (some 207) rfl rfl Try.func11 (by kernel_rfl) rfl #[.int .i64 t286] rfl (by (try simp only [List.map_toArray, List.map_cons, List.map_nil]); first | done | rfl | (simp only [List.length_drop, List.length_take]; rfl)) ?_; (with_reducible refine (gangwaylaw1_num.calls t286 t287 _ A130.out).mono ?_); rintro e w' ⟨rfl, ⟨nd, rfl⟩⟩; refine ⟨_, rfl, ?_⟩))
                                      go_ret
                                      exact ⟨by first | rfl | (simp [errW_none, errW_some] <;> rfl) | (simp only [← hji54, ← hji58, ← hji117]; first | rfl | (simp [errW_none, errW_some] <;> rfl)) | (simp [*, errW_none, errW_some] <;> rfl), by repeat (first | (with_reducible first | exact HB.out | apply below_alloc | apply pw_below_drewN | apply below_drew1 | refine below_set ?_ GE221.out) | exact HB.out)⟩
                                    ·rw [if_neg c128] at H
                                     exact absurd H (by simp)
                                ·rw [if_neg c119] at H
                                 exact absurd H (by simp)
                               ·rw [if_neg c118] at H
                                exact absurd H (by simp)
                              ·rw [if_neg c115] at H
                               have c115b0 : decide ((x9_70.length : Int) < 10) = false := decide_eq_false c115
                               have c115b1 : decide (x9_70.length < 10) = false := decide_eq_false (by omega)
                               clear c115
                               have H' := Aside0.mk H
                               clear H
                               go_wp2
                               (try simp only [← hl9_70])
                               go_roundg kj70
                               case measure => have := HK1.out; have := HJ1.out; have := HJ10.out; have := HJ34.out; have := HJ61.out; have := HJ70.out; omega
                               case rel => exact ⟨(wrap64 (x3_1 + 1)), (by first | rfl | (simp; done) | (simp [*]; done)), H', ⟨by have := HK1.out; have := HJ1.out; have := HJ10.out; have := HJ34.out; have := HJ61.out; have := HJ70.out; omega⟩, ⟨by repeat (first | (with_reducible first | exact HB.out | apply below_alloc | apply pw_below_drewN | apply below_drew1 | refine below_set ?_ GE221.out) | exact HB.out)⟩⟩
                      ·rw [if_neg c60] at H
                       exact absurd H (by simp)
                     ·rw [if_neg c59] at H
                      exact absurd H (by simp)
                    ·rw [if_neg c56] at H
                     exact absurd H (by simp)
                   ·rw [if_neg c55] at H
                    exact absurd H (by simp)
              ·rw [if_neg c33] at H
               exact absurd H (by simp)
         ·rw [if_neg c9] at H
          exact absurd H (by simp)
        ·rw [if_neg c6] at H
         exact absurd H (by simp)
       ·rw [if_neg c5] at H
        exact absurd H (by simp)
      ·replace c4 := Bool.eq_false_iff.mpr c4
       subst c4
       have H1 : ((gangwaylaw1_wakes.f kj1).bind fun t219 => (some t219)) = some r := by rw [if_neg (show ¬ (false = true) by decide)] at H; exact H
       clear H
       have H := H1
       clear H1
       replace H := Option.bind_eq_some_iff.mp H
       obtain ⟨t219, A1490, H⟩ := H
       replace H : (some t219) = some r := H
       have A149 := Aside0.mk A1490
       clear A1490
       obtain rfl := Option.some.inj H
       go_wp2_with (first | ((with_reducible refine gate_callee (f := 12) rfl ?_); refine goesL_ (some 222) rfl rfl Try.func12 (by kernel_rfl) rfl #[] rfl (by (try simp only [List.map_toArray, List.map_cons, List.map_nil]); first | done | rfl | (simp only [List.length_drop, List.length_take]; rfl)) ?_; (with_reducible refine (gangwaylaw1_wakes.calls kj1  t219 _ A149.out).mono ?_); rintro e w150 ⟨rfl, hb⟩; refine ⟨_, rfl, ?_⟩; have n0_ := Aside0.mk (below_step (by repeat (first | (with_reducible first | exact HB.out | apply below_alloc | apply pw_below_drewN | apply below_drew1) | exact HB.out)) hb); clear HB; have HB := n0_; clear n0_; (try clear hb); (try clear hb2); (try clear hk); (try clear hi)))
       go_ret
       exact ⟨by first | rfl | (simp [errW_none, errW_some] <;> rfl) | (simp [*, errW_none, errW_some] <;> rfl), by repeat (first | (with_reducible first | exact HB.out | apply below_alloc | apply pw_below_drewN | apply below_drew1) | exact HB.out)⟩

/-- THE ONE PURE STATEMENT of gangwaylaw1_LebBack: yours. -/
def gangwaylaw1_LebBack.Pure : Prop := ∀ (x0 : List (S26)), (x0.length * 48 ≤ 140737488351232 ∧ ∀ y288 ∈ x0, okT26 y288) → ∃ k, gangwaylaw1_LebBack.f k x0 = some true
theorem gangwaylaw1_LebBack.walk (P : gangwaylaw1_LebBack.Pure) (w : World) (x0 : List (S26)) (A0 : Option Addr) (c0 : Nat) (hr0 : Kd.C k26 w A0 x0.length x0) (hc0 : x0.length ≤ c0) (hok0 : (x0.length * 48 ≤ 140737488351232 ∧ ∀ y289 ∈ x0, okT26 y289)) :
  Calls Try.prog 6 #[.slice A0 x0.length c0] w fun e w' => e = .returned (.bool true) ∧ Below w.heap.size w w' := by
 obtain ⟨k, h⟩ := P x0 hok0
 refine (gangwaylaw1_LebBack.calls k _ _ x0 true w hr0 hc0 h).mono ?_
 rintro e w' ⟨rfl, hd⟩
 exact ⟨rfl, hd⟩

end Go.Proofs.Ytgmlnigelbplnaa.PAll
