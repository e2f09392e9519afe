/- Printed by a copy of the printer that was turned for this claim: functions as plain Lean functions, with proofs that their calls come to these; or words that such proofs use. -/
import Derived.Test.YtjmajhalgdeicaaPAllx0
import Derived.Test.YtjmajhalgdeicaaPAllx1
import Derived.Test.YtjmajhalgdeicaaPAllx2
namespace Go.Proofs.Ytjmajhalgdeicaa.PAll
open Go.RowKit Go.Proofs.YtjmajhalgdeicaaW.PrintWords Go.Proofs.YtjmajhalgdeicaaW.PrintLast Go.Proofs.YtjmajhalgdeicaaW.PrintMore
attribute [local go_sem] max2_int min2_int max_two min_two max_three min_three max_four min_four   -- for this text's walks alone
set_option linter.unusedVariables false
set_option linter.unusedSimpArgs false

/-! ### gangwaylaw9_MemGrows: function 3 -/
mutual
def gangwaylaw9_MemGrows.j0 : Nat → Bool → Int → Int → Int → List (S48) → List Int → Int → Option (Bool)
  | 0, _, _, _, _, _, _, _ => none
  | k + 1, x32, x145000, x145001, x145002, x145003, x151000, x151001 => if x32 = true then (none) else (gangwaylaw9_MemGrows.j1 k x145000 x145001 x145002 x145003 x151000 x151001)
def gangwaylaw9_MemGrows.j1 : Nat → Int → Int → Int → List (S48) → List Int → Int → Option (Bool)
  | 0, _, _, _, _, _, _ => none
  | k + 1, x145000, x145001, x145002, x145003, x151000, x151001 => gangwaylaw9_MemGrows.l0 k 0 x145000 x145001 x145002 x145003 x151000 x151001
def gangwaylaw9_MemGrows.j7 : Nat → Int → Int → Int → List (S48) → List Int → Int → Option (Bool)
  | 0, _, _, _, _, _, _ => none
  | k + 1, x145000, x145001, x145002, x145003, x151000, x151001 => gangwaylaw9_MemGrows.l1 k 0 x145000 x145001 x145002 x145003 x151000 x151001
def gangwaylaw9_MemGrows.j11 : Nat → Int → Int → Int → List (S48) → List Int → Int → Option (Bool)
  | 0, _, _, _, _, _, _ => none
  | k + 1, x145000, x145001, x145002, x145003, x151000, x151001 => (mem_New.f k 2 1 4).bind fun bt193 => (if bt193.1 = true then (none) else ((mem_New.f k 2 (-1) 1).bind fun bt239 => (if bt239.1 = true then (none) else ((mem_Memory_Grow.f x151000 x151001 (-1)).bind fun bt263 => (if bt263.1 = (-1) then ((mem_Memory_Grow.f bt263.2.1 bt263.2.2 1099511627776).bind fun bt268 => (if bt268.1 = (-1) then ((mem_Memory_Grow.f bt268.2.1 bt268.2.2 0).bind fun bt273 => (if bt273.1 = 3 then ((gangwaylaw9_num.f bt193.2.2.2).bind fun t278 => (if t278 = 100 then ((gangwaylaw9_num.f bt239.2.2.2).bind fun t279 => (if t279 = 51 then (if (x145003.length : Int) ≥ 0 then ((gangwaylaw9_wakes.f k).bind fun t280 => (some t280)) else (none)) else (none))) else (none))) else (none))) else (none))) else (none))))))
def gangwaylaw9_MemGrows.l1 : Nat → Int → Int → Int → Int → List (S48) → List Int → Int → Option (Bool)
  | 0, _, _, _, _, _, _, _ => none
  | k + 1, x9, x145000, x145001, x145002, x145003, x151000, x151001 => if x9 < 3 then (gangwaylaw9_MemGrows.j9 k x9 x145000 x145001 x145002 x145003 x151000 x151001) else (gangwaylaw9_MemGrows.j11 k x145000 x145001 x145002 x145003 x151000 x151001)
def gangwaylaw9_MemGrows.j9 : Nat → Int → Int → Int → Int → List (S48) → List Int → Int → Option (Bool)
  | 0, _, _, _, _, _, _, _ => none
  | k + 1, x9, x145000, x145001, x145002, x145003, x151000, x151001 => (mem_Memory_Load.f k x151000 x151001 (wrap64 ((wrap64 (x9 * 65536)) + 5)) 0 4).bind fun bt186 => ((gangwaylaw9_num.f bt186.2.1).bind fun t192 => (if t192 = 0 then (gangwaylaw9_MemGrows.j10 k x9 (bt186.1 != (IntKind.u64.wrap (wrap64 (x9 + 1)))) x145000 x145001 x145002 x145003 bt186.2.2.1 bt186.2.2.2) else (none)))
def gangwaylaw9_MemGrows.j10 : Nat → Int → Bool → Int → Int → Int → List (S48) → List Int → Int → Option (Bool)
  | 0, _, _, _, _, _, _, _, _ => none
  | k + 1, x9, x106, x145000, x145001, x145002, x145003, x151000, x151001 => if x106 = true then (none) else (gangwaylaw9_MemGrows.l1 k (wrap64 (x9 + 1)) x145000 x145001 x145002 x145003 x151000 x151001)
def gangwaylaw9_MemGrows.l0 : Nat → Int → Int → Int → Int → List (S48) → List Int → Int → Option (Bool)
  | 0, _, _, _, _, _, _, _ => none
  | k + 1, x5, x145000, x145001, x145002, x145003, x151000, x151001 => if x5 < 4 then (gangwaylaw9_MemGrows.j3 k x5 x145000 x145001 x145002 x145003 x151000 x151001) else (gangwaylaw9_MemGrows.j7 k x145000 x145001 x145002 x145003 x151000 x151001)
def gangwaylaw9_MemGrows.j3 : Nat → Int → Int → Int → Int → List (S48) → List Int → Int → Option (Bool)
  | 0, _, _, _, _, _, _, _ => none
  | k + 1, x5, x145000, x145001, x145002, x145003, x151000, x151001 => (mem_Memory_Grow.f x151000 x151001 1).bind fun bt158 => (if x5 = 3 then (if bt158.1 = (-1) then ((mem_Memory_Size.f bt158.2.1 bt158.2.2).bind fun bt163 => (gangwaylaw9_MemGrows.j4 k (bt163.1 != 3) x145000 x145001 x145002 x145003 bt163.2.1 bt163.2.2)) else (none)) else (gangwaylaw9_MemGrows.j5 k x5 bt158.1 x145000 x145001 x145002 x145003 bt158.2.1 bt158.2.2))
def gangwaylaw9_MemGrows.j5 : Nat → Int → Int → Int → Int → Int → List (S48) → List Int → Int → Option (Bool)
  | 0, _, _, _, _, _, _, _, _ => none
  | k + 1, x5, x6, x145000, x145001, x145002, x145003, x151000, x151001 => (mem_Memory_Load.f k x151000 x151001 (wrap64 (x5 * 65536)) 65528 8).bind fun bt168 => (if x6 = x5 then ((mem_Memory_Size.f bt168.2.2.1 bt168.2.2.2).bind fun bt174 => (if bt174.1 = (wrap64 (x5 + 1)) then ((gangwaylaw9_num.f bt168.2.1).bind fun t179 => (if t179 = 0 then (if bt168.1 = 0 then ((mem_Memory_Store.f bt174.2.1 bt174.2.2 (wrap64 (x5 * 65536)) 5 4 (IntKind.u64.wrap (wrap64 (x5 + 1)))).bind fun bt180 => ((gangwaylaw9_num.f bt180.1).bind fun t185 => (gangwaylaw9_MemGrows.j6 k x5 (t185 != 0) x145000 x145001 x145002 x145003 bt180.2.1 bt180.2.2))) else (none)) else (none))) else (none))) else (none))
def gangwaylaw9_MemGrows.j6 : Nat → Int → Bool → Int → Int → Int → List (S48) → List Int → Int → Option (Bool)
  | 0, _, _, _, _, _, _, _, _ => none
  | k + 1, x5, x84, x145000, x145001, x145002, x145003, x151000, x151001 => if x84 = true then (none) else (gangwaylaw9_MemGrows.l0 k (wrap64 (x5 + 1)) x145000 x145001 x145002 x145003 x151000 x151001)
def gangwaylaw9_MemGrows.j4 : Nat → Bool → Int → Int → Int → List (S48) → List Int → Int → Option (Bool)
  | 0, _, _, _, _, _, _, _ => none
  | k + 1, x47, x145000, x145001, x145002, x145003, x151000, x151001 => if x47 = true then (none) else (gangwaylaw9_MemGrows.j7 k x145000 x145001 x145002 x145003 x151000 x151001)
end
def gangwaylaw9_MemGrows.f (k : Nat) (a0_0 : Int) (a0_1 : Int) (a0_2 : Int) (l0_3 : List (S48)) : Option (Bool) := (mem_New.f k 0 3 4).bind fun bt145 => (if bt145.1 = true then ((gangwaylaw9_num.f bt145.2.2.2).bind fun t152 => (if t152 = 0 then ((mem_Memory_Size.f bt145.2.1 bt145.2.2.1).bind fun bt153 => (gangwaylaw9_MemGrows.j0 k (bt153.1 != 0) a0_0 a0_1 a0_2 l0_3 bt153.2.1 bt153.2.2)) else (gangwaylaw9_MemGrows.j0 k true a0_0 a0_1 a0_2 l0_3 bt145.2.1 bt145.2.2.1))) else (none))
theorem gangwaylaw9_MemGrows.mono_l : ∀ k, (∀ y0 y1 y2 y3 y4 y5 y6, LeO (gangwaylaw9_MemGrows.j0 k y0 y1 y2 y3 y4 y5 y6) (gangwaylaw9_MemGrows.j0 (k + 1) y0 y1 y2 y3 y4 y5 y6)) ∧ (∀ y0 y1 y2 y3 y4 y5, LeO (gangwaylaw9_MemGrows.j1 k y0 y1 y2 y3 y4 y5) (gangwaylaw9_MemGrows.j1 (k + 1) y0 y1 y2 y3 y4 y5)) ∧ (∀ y0 y1 y2 y3 y4 y5, LeO (gangwaylaw9_MemGrows.j7 k y0 y1 y2 y3 y4 y5) (gangwaylaw9_MemGrows.j7 (k + 1) y0 y1 y2 y3 y4 y5)) ∧ (∀ y0 y1 y2 y3 y4 y5, LeO (gangwaylaw9_MemGrows.j11 k y0 y1 y2 y3 y4 y5) (gangwaylaw9_MemGrows.j11 (k + 1) y0 y1 y2 y3 y4 y5)) ∧ (∀ y0 y1 y2 y3 y4 y5 y6, LeO (gangwaylaw9_MemGrows.l1 k y0 y1 y2 y3 y4 y5 y6) (gangwaylaw9_MemGrows.l1 (k + 1) y0 y1 y2 y3 y4 y5 y6)) ∧ (∀ y0 y1 y2 y3 y4 y5 y6, LeO (gangwaylaw9_MemGrows.j9 k y0 y1 y2 y3 y4 y5 y6) (gangwaylaw9_MemGrows.j9 (k + 1) y0 y1 y2 y3 y4 y5 y6)) ∧ (∀ y0 y1 y2 y3 y4 y5 y6 y7, LeO (gangwaylaw9_MemGrows.j10 k y0 y1 y2 y3 y4 y5 y6 y7) (gangwaylaw9_MemGrows.j10 (k + 1) y0 y1 y2 y3 y4 y5 y6 y7)) ∧ (∀ y0 y1 y2 y3 y4 y5 y6, LeO (gangwaylaw9_MemGrows.l0 k y0 y1 y2 y3 y4 y5 y6) (gangwaylaw9_MemGrows.l0 (k + 1) y0 y1 y2 y3 y4 y5 y6)) ∧ (∀ y0 y1 y2 y3 y4 y5 y6, LeO (gangwaylaw9_MemGrows.j3 k y0 y1 y2 y3 y4 y5 y6) (gangwaylaw9_MemGrows.j3 (k + 1) y0 y1 y2 y3 y4 y5 y6)) ∧ (∀ y0 y1 y2 y3 y4 y5 y6 y7, LeO (gangwaylaw9_MemGrows.j5 k y0 y1 y2 y3 y4 y5 y6 y7) (gangwaylaw9_MemGrows.j5 (k + 1) y0 y1 y2 y3 y4 y5 y6 y7)) ∧ (∀ y0 y1 y2 y3 y4 y5 y6 y7, LeO (gangwaylaw9_MemGrows.j6 k y0 y1 y2 y3 y4 y5 y6 y7) (gangwaylaw9_MemGrows.j6 (k + 1) y0 y1 y2 y3 y4 y5 y6 y7)) ∧ (∀ y0 y1 y2 y3 y4 y5 y6, LeO (gangwaylaw9_MemGrows.j4 k y0 y1 y2 y3 y4 y5 y6) (gangwaylaw9_MemGrows.j4 (k + 1) y0 y1 y2 y3 y4 y5 y6))
  | 0 => ⟨fun _ _ _ _ _ _ _ r h => by simp [gangwaylaw9_MemGrows.j0] at h, fun _ _ _ _ _ _ r h => by simp [gangwaylaw9_MemGrows.j1] at h, fun _ _ _ _ _ _ r h => by simp [gangwaylaw9_MemGrows.j7] at h, fun _ _ _ _ _ _ r h => by simp [gangwaylaw9_MemGrows.j11] at h, fun _ _ _ _ _ _ _ r h => by simp [gangwaylaw9_MemGrows.l1] at h, fun _ _ _ _ _ _ _ r h => by simp [gangwaylaw9_MemGrows.j9] at h, fun _ _ _ _ _ _ _ _ r h => by simp [gangwaylaw9_MemGrows.j10] at h, fun _ _ _ _ _ _ _ r h => by simp [gangwaylaw9_MemGrows.l0] at h, fun _ _ _ _ _ _ _ r h => by simp [gangwaylaw9_MemGrows.j3] at h, fun _ _ _ _ _ _ _ _ r h => by simp [gangwaylaw9_MemGrows.j5] at h, fun _ _ _ _ _ _ _ _ r h => by simp [gangwaylaw9_MemGrows.j6] at h, fun _ _ _ _ _ _ _ r h => by simp [gangwaylaw9_MemGrows.j4] at h⟩
  | k + 1 => by
    obtain ⟨ih0, ih1, ih2, ih3, ih4, ih5, ih6, ih7, ih8, ih9, ih10, ih11⟩ := gangwaylaw9_MemGrows.mono_l k
    refine ⟨?_, ?_, ?_, ?_, ?_, ?_, ?_, ?_, ?_, ?_, ?_, ?_⟩
    · intro y0 y1 y2 y3 y4 y5 y6
      unfold gangwaylaw9_MemGrows.j0
      repeat' first
      | (with_reducible exact ih0 _ _ _ _ _ _ _)
      | (with_reducible exact ih1 _ _ _ _ _ _)
      | (with_reducible exact ih2 _ _ _ _ _ _)
      | (with_reducible exact ih3 _ _ _ _ _ _)
      | (with_reducible exact ih4 _ _ _ _ _ _ _)
      | (with_reducible exact ih5 _ _ _ _ _ _ _)
      | (with_reducible exact ih6 _ _ _ _ _ _ _ _)
      | (with_reducible exact ih7 _ _ _ _ _ _ _)
      | (with_reducible exact ih8 _ _ _ _ _ _ _)
      | (with_reducible exact ih9 _ _ _ _ _ _ _ _)
      | (with_reducible exact ih10 _ _ _ _ _ _ _ _)
      | (with_reducible exact ih11 _ _ _ _ _ _ _)
      | (with_reducible exact gangwaylaw9_wakes.mono _)
      | (with_reducible exact mem_Memory_Load.mono _ _ _ _ _ _)
      | (with_reducible exact mem_New.mono _ _ _ _)
      | (with_reducible exact LeO.refl _)
      | (with_reducible exact LeO.none _)
      | (with_reducible refine LeO.ite ?_ ?_)
      | (with_reducible refine LeO.bind ?_ (fun _ => ?_))
      | exact ih0 _ _ _ _ _ _ _
      | exact ih1 _ _ _ _ _ _
      | exact ih2 _ _ _ _ _ _
      | exact ih3 _ _ _ _ _ _
      | exact ih4 _ _ _ _ _ _ _
      | exact ih5 _ _ _ _ _ _ _
      | exact ih6 _ _ _ _ _ _ _ _
      | exact ih7 _ _ _ _ _ _ _
      | exact ih8 _ _ _ _ _ _ _
      | exact ih9 _ _ _ _ _ _ _ _
      | exact ih10 _ _ _ _ _ _ _ _
      | exact ih11 _ _ _ _ _ _ _
      | exact gangwaylaw9_wakes.mono _
      | exact mem_Memory_Load.mono _ _ _ _ _ _
      | exact mem_New.mono _ _ _ _
      | exact LeO.none _
      | refine LeO.ite ?_ ?_
      | refine LeO.bind ?_ (fun _ => ?_)
    · intro y0 y1 y2 y3 y4 y5
      unfold gangwaylaw9_MemGrows.j1
      repeat' first
      | (with_reducible exact ih0 _ _ _ _ _ _ _)
      | (with_reducible exact ih1 _ _ _ _ _ _)
      | (with_reducible exact ih2 _ _ _ _ _ _)
      | (with_reducible exact ih3 _ _ _ _ _ _)
      | (with_reducible exact ih4 _ _ _ _ _ _ _)
      | (with_reducible exact ih5 _ _ _ _ _ _ _)
      | (with_reducible exact ih6 _ _ _ _ _ _ _ _)
      | (with_reducible exact ih7 _ _ _ _ _ _ _)
      | (with_reducible exact ih8 _ _ _ _ _ _ _)
      | (with_reducible exact ih9 _ _ _ _ _ _ _ _)
      | (with_reducible exact ih10 _ _ _ _ _ _ _ _)
      | (with_reducible exact ih11 _ _ _ _ _ _ _)
      | (with_reducible exact gangwaylaw9_wakes.mono _)
      | (with_reducible exact mem_Memory_Load.mono _ _ _ _ _ _)
      | (with_reducible exact mem_New.mono _ _ _ _)
      | (with_reducible exact LeO.refl _)
      | (with_reducible exact LeO.none _)
      | (with_reducible refine LeO.ite ?_ ?_)
      | (with_reducible refine LeO.bind ?_ (fun _ => ?_))
      | exact ih0 _ _ _ _ _ _ _
      | exact ih1 _ _ _ _ _ _
      | exact ih2 _ _ _ _ _ _
      | exact ih3 _ _ _ _ _ _
      | exact ih4 _ _ _ _ _ _ _
      | exact ih5 _ _ _ _ _ _ _
      | exact ih6 _ _ _ _ _ _ _ _
      | exact ih7 _ _ _ _ _ _ _
      | exact ih8 _ _ _ _ _ _ _
      | exact ih9 _ _ _ _ _ _ _ _
      | exact ih10 _ _ _ _ _ _ _ _
      | exact ih11 _ _ _ _ _ _ _
      | exact gangwaylaw9_wakes.mono _
      | exact mem_Memory_Load.mono _ _ _ _ _ _
      | exact mem_New.mono _ _ _ _
      | exact LeO.none _
      | refine LeO.ite ?_ ?_
      | refine LeO.bind ?_ (fun _ => ?_)
    · intro y0 y1 y2 y3 y4 y5
      unfold gangwaylaw9_MemGrows.j7
      repeat' first
      | (with_reducible exact ih0 _ _ _ _ _ _ _)
      | (with_reducible exact ih1 _ _ _ _ _ _)
      | (with_reducible exact ih2 _ _ _ _ _ _)
      | (with_reducible exact ih3 _ _ _ _ _ _)
      | (with_reducible exact ih4 _ _ _ _ _ _ _)
      | (with_reducible exact ih5 _ _ _ _ _ _ _)
      | (with_reducible exact ih6 _ _ _ _ _ _ _ _)
      | (with_reducible exact ih7 _ _ _ _ _ _ _)
      | (with_reducible exact ih8 _ _ _ _ _ _ _)
      | (with_reducible exact ih9 _ _ _ _ _ _ _ _)
      | (with_reducible exact ih10 _ _ _ _ _ _ _ _)
      | (with_reducible exact ih11 _ _ _ _ _ _ _)
      | (with_reducible exact gangwaylaw9_wakes.mono _)
      | (with_reducible exact mem_Memory_Load.mono _ _ _ _ _ _)
      | (with_reducible exact mem_New.mono _ _ _ _)
      | (with_reducible exact LeO.refl _)
      | (with_reducible exact LeO.none _)
      | (with_reducible refine LeO.ite ?_ ?_)
      | (with_reducible refine LeO.bind ?_ (fun _ => ?_))
      | exact ih0 _ _ _ _ _ _ _
      | exact ih1 _ _ _ _ _ _
      | exact ih2 _ _ _ _ _ _
      | exact ih3 _ _ _ _ _ _
      | exact ih4 _ _ _ _ _ _ _
      | exact ih5 _ _ _ _ _ _ _
      | exact ih6 _ _ _ _ _ _ _ _
      | exact ih7 _ _ _ _ _ _ _
      | exact ih8 _ _ _ _ _ _ _
      | exact ih9 _ _ _ _ _ _ _ _
      | exact ih10 _ _ _ _ _ _ _ _
      | exact ih11 _ _ _ _ _ _ _
      | exact gangwaylaw9_wakes.mono _
      | exact mem_Memory_Load.mono _ _ _ _ _ _
      | exact mem_New.mono _ _ _ _
      | exact LeO.none _
      | refine LeO.ite ?_ ?_
      | refine LeO.bind ?_ (fun _ => ?_)
    · intro y0 y1 y2 y3 y4 y5
      unfold gangwaylaw9_MemGrows.j11
      repeat' first
      | (with_reducible exact ih0 _ _ _ _ _ _ _)
      | (with_reducible exact ih1 _ _ _ _ _ _)
      | (with_reducible exact ih2 _ _ _ _ _ _)
      | (with_reducible exact ih3 _ _ _ _ _ _)
      | (with_reducible exact ih4 _ _ _ _ _ _ _)
      | (with_reducible exact ih5 _ _ _ _ _ _ _)
      | (with_reducible exact ih6 _ _ _ _ _ _ _ _)
      | (with_reducible exact ih7 _ _ _ _ _ _ _)
      | (with_reducible exact ih8 _ _ _ _ _ _ _)
      | (with_reducible exact ih9 _ _ _ _ _ _ _ _)
      | (with_reducible exact ih10 _ _ _ _ _ _ _ _)
      | (with_reducible exact ih11 _ _ _ _ _ _ _)
      | (with_reducible exact gangwaylaw9_wakes.mono _)
      | (with_reducible exact mem_Memory_Load.mono _ _ _ _ _ _)
      | (with_reducible exact mem_New.mono _ _ _ _)
      | (with_reducible exact LeO.refl _)
      | (with_reducible exact LeO.none _)
      | (with_reducible refine LeO.ite ?_ ?_)
      | (with_reducible refine LeO.bind ?_ (fun _ => ?_))
      | exact ih0 _ _ _ _ _ _ _
      | exact ih1 _ _ _ _ _ _
      | exact ih2 _ _ _ _ _ _
      | exact ih3 _ _ _ _ _ _
      | exact ih4 _ _ _ _ _ _ _
      | exact ih5 _ _ _ _ _ _ _
      | exact ih6 _ _ _ _ _ _ _ _
      | exact ih7 _ _ _ _ _ _ _
      | exact ih8 _ _ _ _ _ _ _
      | exact ih9 _ _ _ _ _ _ _ _
      | exact ih10 _ _ _ _ _ _ _ _
      | exact ih11 _ _ _ _ _ _ _
      | exact gangwaylaw9_wakes.mono _
      | exact mem_Memory_Load.mono _ _ _ _ _ _
      | exact mem_New.mono _ _ _ _
      | exact LeO.none _
      | refine LeO.ite ?_ ?_
      | refine LeO.bind ?_ (fun _ => ?_)
    · intro y0 y1 y2 y3 y4 y5 y6
      unfold gangwaylaw9_MemGrows.l1
      repeat' first
      | (with_reducible exact ih0 _ _ _ _ _ _ _)
      | (with_reducible exact ih1 _ _ _ _ _ _)
      | (with_reducible exact ih2 _ _ _ _ _ _)
      | (with_reducible exact ih3 _ _ _ _ _ _)
      | (with_reducible exact ih4 _ _ _ _ _ _ _)
      | (with_reducible exact ih5 _ _ _ _ _ _ _)
      | (with_reducible exact ih6 _ _ _ _ _ _ _ _)
      | (with_reducible exact ih7 _ _ _ _ _ _ _)
      | (with_reducible exact ih8 _ _ _ _ _ _ _)
      | (with_reducible exact ih9 _ _ _ _ _ _ _ _)
      | (with_reducible exact ih10 _ _ _ _ _ _ _ _)
      | (with_reducible exact ih11 _ _ _ _ _ _ _)
      | (with_reducible exact gangwaylaw9_wakes.mono _)
      | (with_reducible exact mem_Memory_Load.mono _ _ _ _ _ _)
      | (with_reducible exact mem_New.mono _ _ _ _)
      | (with_reducible exact LeO.refl _)
      | (with_reducible exact LeO.none _)
      | (with_reducible refine LeO.ite ?_ ?_)
      | (with_reducible refine LeO.bind ?_ (fun _ => ?_))
      | exact ih0 _ _ _ _ _ _ _
      | exact ih1 _ _ _ _ _ _
      | exact ih2 _ _ _ _ _ _
      | exact ih3 _ _ _ _ _ _
      | exact ih4 _ _ _ _ _ _ _
      | exact ih5 _ _ _ _ _ _ _
      | exact ih6 _ _ _ _ _ _ _ _
      | exact ih7 _ _ _ _ _ _ _
      | exact ih8 _ _ _ _ _ _ _
      | exact ih9 _ _ _ _ _ _ _ _
      | exact ih10 _ _ _ _ _ _ _ _
      | exact ih11 _ _ _ _ _ _ _
      | exact gangwaylaw9_wakes.mono _
      | exact mem_Memory_Load.mono _ _ _ _ _ _
      | exact mem_New.mono _ _ _ _
      | exact LeO.none _
      | refine LeO.ite ?_ ?_
      | refine LeO.bind ?_ (fun _ => ?_)
    · intro y0 y1 y2 y3 y4 y5 y6
      unfold gangwaylaw9_MemGrows.j9
      repeat' first
      | (with_reducible exact ih0 _ _ _ _ _ _ _)
      | (with_reducible exact ih1 _ _ _ _ _ _)
      | (with_reducible exact ih2 _ _ _ _ _ _)
      | (with_reducible exact ih3 _ _ _ _ _ _)
      | (with_reducible exact ih4 _ _ _ _ _ _ _)
      | (with_reducible exact ih5 _ _ _ _ _ _ _)
      | (with_reducible exact ih6 _ _ _ _ _ _ _ _)
      | (with_reducible exact ih7 _ _ _ _ _ _ _)
      | (with_reducible exact ih8 _ _ _ _ _ _ _)
      | (with_reducible exact ih9 _ _ _ _ _ _ _ _)
      | (with_reducible exact ih10 _ _ _ _ _ _ _ _)
      | (with_reducible exact ih11 _ _ _ _ _ _ _)
      | (with_reducible exact gangwaylaw9_wakes.mono _)
      | (with_reducible exact mem_Memory_Load.mono _ _ _ _ _ _)
      | (with_reducible exact mem_New.mono _ _ _ _)
      | (with_reducible exact LeO.refl _)
      | (with_reducible exact LeO.none _)
      | (with_reducible refine LeO.ite ?_ ?_)
      | (with_reducible refine LeO.bind ?_ (fun _ => ?_))
      | exact ih0 _ _ _ _ _ _ _
      | exact ih1 _ _ _ _ _ _
      | exact ih2 _ _ _ _ _ _
      | exact ih3 _ _ _ _ _ _
      | exact ih4 _ _ _ _ _ _ _
      | exact ih5 _ _ _ _ _ _ _
      | exact ih6 _ _ _ _ _ _ _ _
      | exact ih7 _ _ _ _ _ _ _
      | exact ih8 _ _ _ _ _ _ _
      | exact ih9 _ _ _ _ _ _ _ _
      | exact ih10 _ _ _ _ _ _ _ _
      | exact ih11 _ _ _ _ _ _ _
      | exact gangwaylaw9_wakes.mono _
      | exact mem_Memory_Load.mono _ _ _ _ _ _
      | exact mem_New.mono _ _ _ _
      | exact LeO.none _
      | refine LeO.ite ?_ ?_
      | refine LeO.bind ?_ (fun _ => ?_)
    · intro y0 y1 y2 y3 y4 y5 y6 y7
      unfold gangwaylaw9_MemGrows.j10
      repeat' first
      | (with_reducible exact ih0 _ _ _ _ _ _ _)
      | (with_reducible exact ih1 _ _ _ _ _ _)
      | (with_reducible exact ih2 _ _ _ _ _ _)
      | (with_reducible exact ih3 _ _ _ _ _ _)
      | (with_reducible exact ih4 _ _ _ _ _ _ _)
      | (with_reducible exact ih5 _ _ _ _ _ _ _)
      | (with_reducible exact ih6 _ _ _ _ _ _ _ _)
      | (with_reducible exact ih7 _ _ _ _ _ _ _)
      | (with_reducible exact ih8 _ _ _ _ _ _ _)
      | (with_reducible exact ih9 _ _ _ _ _ _ _ _)
      | (with_reducible exact ih10 _ _ _ _ _ _ _ _)
      | (with_reducible exact ih11 _ _ _ _ _ _ _)
      | (with_reducible exact gangwaylaw9_wakes.mono _)
      | (with_reducible exact mem_Memory_Load.mono _ _ _ _ _ _)
      | (with_reducible exact mem_New.mono _ _ _ _)
      | (with_reducible exact LeO.refl _)
      | (with_reducible exact LeO.none _)
      | (with_reducible refine LeO.ite ?_ ?_)
      | (with_reducible refine LeO.bind ?_ (fun _ => ?_))
      | exact ih0 _ _ _ _ _ _ _
      | exact ih1 _ _ _ _ _ _
      | exact ih2 _ _ _ _ _ _
      | exact ih3 _ _ _ _ _ _
      | exact ih4 _ _ _ _ _ _ _
      | exact ih5 _ _ _ _ _ _ _
      | exact ih6 _ _ _ _ _ _ _ _
      | exact ih7 _ _ _ _ _ _ _
      | exact ih8 _ _ _ _ _ _ _
      | exact ih9 _ _ _ _ _ _ _ _
      | exact ih10 _ _ _ _ _ _ _ _
      | exact ih11 _ _ _ _ _ _ _
      | exact gangwaylaw9_wakes.mono _
      | exact mem_Memory_Load.mono _ _ _ _ _ _
      | exact mem_New.mono _ _ _ _
      | exact LeO.none _
      | refine LeO.ite ?_ ?_
      | refine LeO.bind ?_ (fun _ => ?_)
    · intro y0 y1 y2 y3 y4 y5 y6
      unfold gangwaylaw9_MemGrows.l0
      repeat' first
      | (with_reducible exact ih0 _ _ _ _ _ _ _)
      | (with_reducible exact ih1 _ _ _ _ _ _)
      | (with_reducible exact ih2 _ _ _ _ _ _)
      | (with_reducible exact ih3 _ _ _ _ _ _)
      | (with_reducible exact ih4 _ _ _ _ _ _ _)
      | (with_reducible exact ih5 _ _ _ _ _ _ _)
      | (with_reducible exact ih6 _ _ _ _ _ _ _ _)
      | (with_reducible exact ih7 _ _ _ _ _ _ _)
      | (with_reducible exact ih8 _ _ _ _ _ _ _)
      | (with_reducible exact ih9 _ _ _ _ _ _ _ _)
      | (with_reducible exact ih10 _ _ _ _ _ _ _ _)
      | (with_reducible exact ih11 _ _ _ _ _ _ _)
      | (with_reducible exact gangwaylaw9_wakes.mono _)
      | (with_reducible exact mem_Memory_Load.mono _ _ _ _ _ _)
      | (with_reducible exact mem_New.mono _ _ _ _)
      | (with_reducible exact LeO.refl _)
      | (with_reducible exact LeO.none _)
      | (with_reducible refine LeO.ite ?_ ?_)
      | (with_reducible refine LeO.bind ?_ (fun _ => ?_))
      | exact ih0 _ _ _ _ _ _ _
      | exact ih1 _ _ _ _ _ _
      | exact ih2 _ _ _ _ _ _
      | exact ih3 _ _ _ _ _ _
      | exact ih4 _ _ _ _ _ _ _
      | exact ih5 _ _ _ _ _ _ _
      | exact ih6 _ _ _ _ _ _ _ _
      | exact ih7 _ _ _ _ _ _ _
      | exact ih8 _ _ _ _ _ _ _
      | exact ih9 _ _ _ _ _ _ _ _
      | exact ih10 _ _ _ _ _ _ _ _
      | exact ih11 _ _ _ _ _ _ _
      | exact gangwaylaw9_wakes.mono _
      | exact mem_Memory_Load.mono _ _ _ _ _ _
      | exact mem_New.mono _ _ _ _
      | exact LeO.none _
      | refine LeO.ite ?_ ?_
      | refine LeO.bind ?_ (fun _ => ?_)
    · intro y0 y1 y2 y3 y4 y5 y6
      unfold gangwaylaw9_MemGrows.j3
      repeat' first
      | (with_reducible exact ih0 _ _ _ _ _ _ _)
      | (with_reducible exact ih1 _ _ _ _ _ _)
      | (with_reducible exact ih2 _ _ _ _ _ _)
      | (with_reducible exact ih3 _ _ _ _ _ _)
      | (with_reducible exact ih4 _ _ _ _ _ _ _)
      | (with_reducible exact ih5 _ _ _ _ _ _ _)
      | (with_reducible exact ih6 _ _ _ _ _ _ _ _)
      | (with_reducible exact ih7 _ _ _ _ _ _ _)
      | (with_reducible exact ih8 _ _ _ _ _ _ _)
      | (with_reducible exact ih9 _ _ _ _ _ _ _ _)
      | (with_reducible exact ih10 _ _ _ _ _ _ _ _)
      | (with_reducible exact ih11 _ _ _ _ _ _ _)
      | (with_reducible exact gangwaylaw9_wakes.mono _)
      | (with_reducible exact mem_Memory_Load.mono _ _ _ _ _ _)
      | (with_reducible exact mem_New.mono _ _ _ _)
      | (with_reducible exact LeO.refl _)
      | (with_reducible exact LeO.none _)
      | (with_reducible refine LeO.ite ?_ ?_)
      | (with_reducible refine LeO.bind ?_ (fun _ => ?_))
      | exact ih0 _ _ _ _ _ _ _
      | exact ih1 _ _ _ _ _ _
      | exact ih2 _ _ _ _ _ _
      | exact ih3 _ _ _ _ _ _
      | exact ih4 _ _ _ _ _ _ _
      | exact ih5 _ _ _ _ _ _ _
      | exact ih6 _ _ _ _ _ _ _ _
      | exact ih7 _ _ _ _ _ _ _
      | exact ih8 _ _ _ _ _ _ _
      | exact ih9 _ _ _ _ _ _ _ _
      | exact ih10 _ _ _ _ _ _ _ _
      | exact ih11 _ _ _ _ _ _ _
      | exact gangwaylaw9_wakes.mono _
      | exact mem_Memory_Load.mono _ _ _ _ _ _
      | exact mem_New.mono _ _ _ _
      | exact LeO.none _
      | refine LeO.ite ?_ ?_
      | refine LeO.bind ?_ (fun _ => ?_)
    · intro y0 y1 y2 y3 y4 y5 y6 y7
      unfold gangwaylaw9_MemGrows.j5
      repeat' first
      | (with_reducible exact ih0 _ _ _ _ _ _ _)
      | (with_reducible exact ih1 _ _ _ _ _ _)
      | (with_reducible exact ih2 _ _ _ _ _ _)
      | (with_reducible exact ih3 _ _ _ _ _ _)
      | (with_reducible exact ih4 _ _ _ _ _ _ _)
      | (with_reducible exact ih5 _ _ _ _ _ _ _)
      | (with_reducible exact ih6 _ _ _ _ _ _ _ _)
      | (with_reducible exact ih7 _ _ _ _ _ _ _)
      | (with_reducible exact ih8 _ _ _ _ _ _ _)
      | (with_reducible exact ih9 _ _ _ _ _ _ _ _)
      | (with_reducible exact ih10 _ _ _ _ _ _ _ _)
      | (with_reducible exact ih11 _ _ _ _ _ _ _)
      | (with_reducible exact gangwaylaw9_wakes.mono _)
      | (with_reducible exact mem_Memory_Load.mono _ _ _ _ _ _)
      | (with_reducible exact mem_New.mono _ _ _ _)
      | (with_reducible exact LeO.refl _)
      | (with_reducible exact LeO.none _)
      | (with_reducible refine LeO.ite ?_ ?_)
      | (with_reducible refine LeO.bind ?_ (fun _ => ?_))
      | exact ih0 _ _ _ _ _ _ _
      | exact ih1 _ _ _ _ _ _
      | exact ih2 _ _ _ _ _ _
      | exact ih3 _ _ _ _ _ _
      | exact ih4 _ _ _ _ _ _ _
      | exact ih5 _ _ _ _ _ _ _
      | exact ih6 _ _ _ _ _ _ _ _
      | exact ih7 _ _ _ _ _ _ _
      | exact ih8 _ _ _ _ _ _ _
      | exact ih9 _ _ _ _ _ _ _ _
      | exact ih10 _ _ _ _ _ _ _ _
      | exact ih11 _ _ _ _ _ _ _
      | exact gangwaylaw9_wakes.mono _
      | exact mem_Memory_Load.mono _ _ _ _ _ _
      | exact mem_New.mono _ _ _ _
      | exact LeO.none _
      | refine LeO.ite ?_ ?_
      | refine LeO.bind ?_ (fun _ => ?_)
    · intro y0 y1 y2 y3 y4 y5 y6 y7
      unfold gangwaylaw9_MemGrows.j6
      repeat' first
      | (with_reducible exact ih0 _ _ _ _ _ _ _)
      | (with_reducible exact ih1 _ _ _ _ _ _)
      | (with_reducible exact ih2 _ _ _ _ _ _)
      | (with_reducible exact ih3 _ _ _ _ _ _)
      | (with_reducible exact ih4 _ _ _ _ _ _ _)
      | (with_reducible exact ih5 _ _ _ _ _ _ _)
      | (with_reducible exact ih6 _ _ _ _ _ _ _ _)
      | (with_reducible exact ih7 _ _ _ _ _ _ _)
      | (with_reducible exact ih8 _ _ _ _ _ _ _)
      | (with_reducible exact ih9 _ _ _ _ _ _ _ _)
      | (with_reducible exact ih10 _ _ _ _ _ _ _ _)
      | (with_reducible exact ih11 _ _ _ _ _ _ _)
      | (with_reducible exact gangwaylaw9_wakes.mono _)
      | (with_reducible exact mem_Memory_Load.mono _ _ _ _ _ _)
      | (with_reducible exact mem_New.mono _ _ _ _)
      | (with_reducible exact LeO.refl _)
      | (with_reducible exact LeO.none _)
      | (with_reducible refine LeO.ite ?_ ?_)
      | (with_reducible refine LeO.bind ?_ (fun _ => ?_))
      | exact ih0 _ _ _ _ _ _ _
      | exact ih1 _ _ _ _ _ _
      | exact ih2 _ _ _ _ _ _
      | exact ih3 _ _ _ _ _ _
      | exact ih4 _ _ _ _ _ _ _
      | exact ih5 _ _ _ _ _ _ _
      | exact ih6 _ _ _ _ _ _ _ _
      | exact ih7 _ _ _ _ _ _ _
      | exact ih8 _ _ _ _ _ _ _
      | exact ih9 _ _ _ _ _ _ _ _
      | exact ih10 _ _ _ _ _ _ _ _
      | exact ih11 _ _ _ _ _ _ _
      | exact gangwaylaw9_wakes.mono _
      | exact mem_Memory_Load.mono _ _ _ _ _ _
      | exact mem_New.mono _ _ _ _
      | exact LeO.none _
      | refine LeO.ite ?_ ?_
      | refine LeO.bind ?_ (fun _ => ?_)
    · intro y0 y1 y2 y3 y4 y5 y6
      unfold gangwaylaw9_MemGrows.j4
      repeat' first
      | (with_reducible exact ih0 _ _ _ _ _ _ _)
      | (with_reducible exact ih1 _ _ _ _ _ _)
      | (with_reducible exact ih2 _ _ _ _ _ _)
      | (with_reducible exact ih3 _ _ _ _ _ _)
      | (with_reducible exact ih4 _ _ _ _ _ _ _)
      | (with_reducible exact ih5 _ _ _ _ _ _ _)
      | (with_reducible exact ih6 _ _ _ _ _ _ _ _)
      | (with_reducible exact ih7 _ _ _ _ _ _ _)
      | (with_reducible exact ih8 _ _ _ _ _ _ _)
      | (with_reducible exact ih9 _ _ _ _ _ _ _ _)
      | (with_reducible exact ih10 _ _ _ _ _ _ _ _)
      | (with_reducible exact ih11 _ _ _ _ _ _ _)
      | (with_reducible exact gangwaylaw9_wakes.mono _)
      | (with_reducible exact mem_Memory_Load.mono _ _ _ _ _ _)
      | (with_reducible exact mem_New.mono _ _ _ _)
      | (with_reducible exact LeO.refl _)
      | (with_reducible exact LeO.none _)
      | (with_reducible refine LeO.ite ?_ ?_)
      | (with_reducible refine LeO.bind ?_ (fun _ => ?_))
      | exact ih0 _ _ _ _ _ _ _
      | exact ih1 _ _ _ _ _ _
      | exact ih2 _ _ _ _ _ _
      | exact ih3 _ _ _ _ _ _
      | exact ih4 _ _ _ _ _ _ _
      | exact ih5 _ _ _ _ _ _ _
      | exact ih6 _ _ _ _ _ _ _ _
      | exact ih7 _ _ _ _ _ _ _
      | exact ih8 _ _ _ _ _ _ _
      | exact ih9 _ _ _ _ _ _ _ _
      | exact ih10 _ _ _ _ _ _ _ _
      | exact ih11 _ _ _ _ _ _ _
      | exact gangwaylaw9_wakes.mono _
      | exact mem_Memory_Load.mono _ _ _ _ _ _
      | exact mem_New.mono _ _ _ _
      | exact LeO.none _
      | refine LeO.ite ?_ ?_
      | refine LeO.bind ?_ (fun _ => ?_)
theorem gangwaylaw9_MemGrows.mono : ∀ a0 a1 a2 a3 k, LeO (gangwaylaw9_MemGrows.f k a0 a1 a2 a3) (gangwaylaw9_MemGrows.f (k + 1) a0 a1 a2 a3) := by
  intro a0 a1 a2 a3 k
  obtain ⟨ih0, ih1, ih2, ih3, ih4, ih5, ih6, ih7, ih8, ih9, ih10, ih11⟩ := gangwaylaw9_MemGrows.mono_l k
  unfold gangwaylaw9_MemGrows.f
  repeat' first
      | (with_reducible exact ih0 _ _ _ _ _ _ _)
      | (with_reducible exact ih1 _ _ _ _ _ _)
      | (with_reducible exact ih2 _ _ _ _ _ _)
      | (with_reducible exact ih3 _ _ _ _ _ _)
      | (with_reducible exact ih4 _ _ _ _ _ _ _)
      | (with_reducible exact ih5 _ _ _ _ _ _ _)
      | (with_reducible exact ih6 _ _ _ _ _ _ _ _)
      | (with_reducible exact ih7 _ _ _ _ _ _ _)
      | (with_reducible exact ih8 _ _ _ _ _ _ _)
      | (with_reducible exact ih9 _ _ _ _ _ _ _ _)
      | (with_reducible exact ih10 _ _ _ _ _ _ _ _)
      | (with_reducible exact ih11 _ _ _ _ _ _ _)
      | (with_reducible exact gangwaylaw9_wakes.mono _)
      | (with_reducible exact mem_Memory_Load.mono _ _ _ _ _ _)
      | (with_reducible exact mem_New.mono _ _ _ _)
      | (with_reducible exact LeO.refl _)
      | (with_reducible exact LeO.none _)
      | (with_reducible refine LeO.ite ?_ ?_)
      | (with_reducible refine LeO.bind ?_ (fun _ => ?_))
      | exact ih0 _ _ _ _ _ _ _
      | exact ih1 _ _ _ _ _ _
      | exact ih2 _ _ _ _ _ _
      | exact ih3 _ _ _ _ _ _
      | exact ih4 _ _ _ _ _ _ _
      | exact ih5 _ _ _ _ _ _ _
      | exact ih6 _ _ _ _ _ _ _ _
      | exact ih7 _ _ _ _ _ _ _
      | exact ih8 _ _ _ _ _ _ _
      | exact ih9 _ _ _ _ _ _ _ _
      | exact ih10 _ _ _ _ _ _ _ _
      | exact ih11 _ _ _ _ _ _ _
      | exact gangwaylaw9_wakes.mono _
      | exact mem_Memory_Load.mono _ _ _ _ _ _
      | exact mem_New.mono _ _ _ _
      | exact LeO.none _
      | refine LeO.ite ?_ ?_
      | refine LeO.bind ?_ (fun _ => ?_)
set_option maxHeartbeats 8000000 in
set_option maxRecDepth 100000 in
theorem gangwaylaw9_MemGrows.calls (k : Nat) (a0_0 : Int) (a0_1 : Int) (a0_2 : Int) (A0_3 : Option Addr) (c0_3 : Nat) (l0_3 : List (S48)) (r : Bool) (w : World) (hr0_3 : Kd.C k48 w A0_3 l0_3.length l0_3) (hc0_3 : l0_3.length ≤ c0_3) (h : gangwaylaw9_MemGrows.f k a0_0 a0_1 a0_2 l0_3 = some r) :
    Calls Try.prog 3 #[.agg #[.int .i64 a0_0, .int .i64 a0_1, .int .i64 a0_2, .slice A0_3 l0_3.length c0_3]] w fun e w' => e = .returned (.bool r) ∧ Below w.heap.size w w' := by
  have hu26 := Try.underlying26
  have hu23 := Try.underlying23
  have HR0_3 := Aside0.mk hr0_3
  have HC0_3 := Aside0.mk hc0_3
  clear hr0_3 hc0_3
  have HB := Aside0.mk (Below.refl w.heap.size w)
  have H : ((mem_New.f k 0 3 4).bind fun bt145 => (if bt145.1 = true then ((gangwaylaw9_num.f bt145.2.2.2).bind fun t152 => (if t152 = 0 then ((mem_Memory_Size.f bt145.2.1 bt145.2.2.1).bind fun bt153 => (gangwaylaw9_MemGrows.j0 k (bt153.1 != 0) a0_0 a0_1 a0_2 l0_3 bt153.2.1 bt153.2.2)) else (gangwaylaw9_MemGrows.j0 k true a0_0 a0_1 a0_2 l0_3 bt145.2.1 bt145.2.2.1))) else (none))) = some r := h
  clear h
  replace H := Option.bind_eq_some_iff.mp H
  obtain ⟨⟨t145, t146, t149, t151⟩, A20, H⟩ := H
  replace H : (if t145 = true then ((gangwaylaw9_num.f t151).bind fun t152 => (if t152 = 0 then ((mem_Memory_Size.f t146 t149).bind fun bt153 => (gangwaylaw9_MemGrows.j0 k (bt153.1 != 0) a0_0 a0_1 a0_2 l0_3 bt153.2.1 bt153.2.2)) else (gangwaylaw9_MemGrows.j0 k true a0_0 a0_1 a0_2 l0_3 t146 t149))) else (none)) = some r := H
  have A2 := Aside0.mk A20
  clear A20
  by_cases c3 : t145 = true
  · subst c3
    have H1 : ((gangwaylaw9_num.f t151).bind fun t152 => (if t152 = 0 then ((mem_Memory_Size.f t146 t149).bind fun bt153 => (gangwaylaw9_MemGrows.j0 k (bt153.1 != 0) a0_0 a0_1 a0_2 l0_3 bt153.2.1 bt153.2.2)) else (gangwaylaw9_MemGrows.j0 k true a0_0 a0_1 a0_2 l0_3 t146 t149))) = some r := by rw [if_pos rfl] at H; exact H
    clear H
    have H := H1
    clear H1
    have HC4 := Aside0.mk H
    clear H
    go_enter Try.func3, Try.ntmps3
    go_upto_region 2 with (first | ((with_reducible refine gate_dst (N := 1) rfl ?_); (try (refine gate_guard (by rfl) ?_; dsimp only)); refine box_event ?hg (N := 1) ?hd (cs := #[.int .i64 a0_0, .int .i64 a0_1, .int .i64 a0_2, .slice A0_3 l0_3.length c0_3]) (t := 26) ?hr ?_; (case hd => rfl); (case hg => rfl); (case hr => first | (go_simp; done) | (go_simp; rfl)); intro gb144 hg w5 hbox hb; have n0_ := Aside0.mk (below_step (by repeat (first | (with_reducible first | exact HB.out | apply below_alloc | apply pw_below_drewN | apply below_drew1) | exact HB.out)) hb); have n1_ := Aside0.mk (hbox); have n2_ := Aside0.mk ((by rw [hg]; exact (below_size (by repeat (first | (with_reducible first | exact HB.out | apply below_alloc | apply pw_below_drewN | apply below_drew1) | exact HB.out))) : w.heap.size ≤ gb144)); have n3_ := Aside0.mk ((by rw [hg]; exact (below_size (by repeat (first | (with_reducible first | exact HB.out | apply below_alloc | apply pw_below_drewN | apply below_drew1) | exact HB.out))) : w.heap.size ≤ gb144)); clear HB; have HB := n0_; have BK144 := n1_; have GW144 := n2_; have GE144 := n3_; clear n0_ n1_ n2_ n3_; clear hb hbox hg) | ((with_reducible refine gate_callee (f := 7) rfl ?_); refine goesL_ (some 18) rfl rfl Try.func7 (by kernel_rfl) rfl #[.agg #[.int .i64 0, .int .i64 3], .int .i64 4] rfl (by (try simp only [List.map_toArray, List.map_cons, List.map_nil]); first | done | rfl | (simp only [List.length_drop, List.length_take]; rfl)) ?_; (with_reducible refine (mem_New.calls k 0 3 4 true t146 t149 t151 _ A2.out).mono ?_); rintro e w6 ⟨v147, pz150, rfl, ho0, hz150, hb⟩; refine ⟨_, rfl, ?_⟩; have n0_ := Aside0.mk (Kd.R_lower ho0 (below_size (by repeat (first | (with_reducible first | exact HB.out | apply below_alloc | apply pw_below_drewN | apply below_drew1 | refine below_set ?_ GE144.out) | exact HB.out)))); have n1_ := Aside0.mk (blk_below (g := gb144) (o := .cells #[.int .i64 a0_0, .int .i64 a0_1, .int .i64 a0_2, .slice A0_3 l0_3.length c0_3] 26 (0, 0)) (by (with_reducible repeat (first | refine blk_drewN ?_ _ | refine blk_drew ?_ | refine blk_alloc ?_ _)); exact BK144.out) hb); have n2_ := Aside0.mk ((show (true = true → ∃ g_ : Nat, pz150 = .pointer (some ⟨g_, 0, none⟩) ∧ IsS61 w w6 g_ v147 t149 ∧ gb144 ≠ g_) ∧ (true = false → pz150 = .pointer none) from ⟨fun h_ => (hz150.1 h_).elim fun g_ hg_ => ⟨g_, hg_.1, hg_.2.lower ((below_size (by repeat (first | (with_reducible first | exact HB.out | apply below_alloc | apply pw_below_drewN | apply below_drew1 | refine below_set ?_ GE144.out) | exact HB.out)))), Nat.ne_of_lt (Nat.lt_of_lt_of_le (blk_lt (g := gb144) (o := .cells #[.int .i64 a0_0, .int .i64 a0_1, .int .i64 a0_2, .slice A0_3 l0_3.length c0_3] 26 (0, 0)) (by (with_reducible repeat (first | refine blk_drewN ?_ _ | refine blk_drew ?_ | refine blk_alloc ?_ _)); exact BK144.out)) hg_.2.ge)⟩, hz150.2⟩)); have n3_ := Aside0.mk (below_step (by repeat (first | (with_reducible first | exact HB.out | apply below_alloc | apply pw_below_drewN | apply below_drew1 | refine below_set ?_ GE144.out) | exact HB.out)) hb); clear BK144; clear HB; have HO148 := n0_; have BK144 := n1_; have HZ150 := n2_; have HB := n3_; clear n0_ n1_ n2_ n3_; (try clear hb); (try clear hb2); (try clear hk); (try clear hi); (try clear ho0); obtain ⟨g150, e_, hi_, hn0_⟩ := HZ150.out.1 rfl; subst e_; have HI150 := Aside0.mk hi_; clear hi_ HZ150; have NB144_150 := Aside0.mk hn0_; have NB150_144 := Aside0.mk (Ne.symm hn0_); clear hn0_))
    (try simp only [Act.put, List.setIfInBounds_toArray, List.set_cons_zero, List.set_cons_succ])
    go_cut [32] (fun v32 wc => ∃ (kq : Nat) (x32_3 : Bool) (x151000_3 : List Int) (x151001_3 : Int) (u151000 : Value), v32 = .bool x32_3 ∧ Aside0 (gangwaylaw9_MemGrows.j0 kq x32_3 a0_0 a0_1 a0_2 l0_3 x151000_3 x151001_3 = some r) ∧ Aside0 (kq ≤ k) ∧ Aside0 (Kd.R (Kd.int .u8) 5 wc w.heap.size (fun _ => True) u151000 x151000_3) ∧ Aside0 (wc.heap[gb144]? = some (.cells #[.int .i64 a0_0, .int .i64 a0_1, .int .i64 a0_2, (.slice A0_3 l0_3.length c0_3)] 26 (0, 0))) ∧ Aside0 (IsS61 w wc g150 u151000 x151001_3) ∧ Aside0 (Below w.heap.size w wc))
    case first =>
      have H := HC4.out
      clear HC4
      replace H := Option.bind_eq_some_iff.mp H
      obtain ⟨t152, A70, H⟩ := H
      replace H : (if t152 = 0 then ((mem_Memory_Size.f t146 t149).bind fun bt153 => (gangwaylaw9_MemGrows.j0 k (bt153.1 != 0) a0_0 a0_1 a0_2 l0_3 bt153.2.1 bt153.2.2)) else (gangwaylaw9_MemGrows.j0 k true a0_0 a0_1 a0_2 l0_3 t146 t149)) = some r := H
      have A7 := Aside0.mk A70
      clear A70
      by_cases c8 : t152 = 0
      · rw [if_pos c8] at H
        have c8b0 : (t152 == 0) = true := beq_iff_eq.mpr c8
        have c8b1 : (t152 != 0) = false := bne_eq_false_iff_eq.mpr c8
        clear c8
        (first | rw [c8b0] | (simp only [i64_w, i32_w]; rw [c8b0]) | skip)
        replace H := Option.bind_eq_some_iff.mp H
        obtain ⟨⟨t153, t154, t157⟩, A90, H⟩ := H
        replace H : (gangwaylaw9_MemGrows.j0 k (t153 != 0) a0_0 a0_1 a0_2 l0_3 t154 t157) = some r := H
        have A9 := Aside0.mk A90
        clear A90
        have H' := Aside0.mk H
        clear H
        go_wp2_with (first | ((with_reducible refine gate_callee (f := 8) rfl ?_); refine goesL_ (some 22) rfl rfl Try.func8 (by kernel_rfl) rfl #[.int .i64 t151] rfl (by (try simp only [List.map_toArray, List.map_cons, List.map_nil]); first | done | rfl | (simp only [List.length_drop, List.length_take]; rfl)) ?_; (with_reducible refine (gangwaylaw9_num.calls t151 t152 _ A7.out).mono ?_); rintro e w' ⟨rfl, ⟨nd, rfl⟩⟩; refine ⟨_, rfl, ?_⟩) | (go_at_call 9; (with_reducible refine (mem_Memory_Size.calls g150 (fun k_ => some k_ = (v147 : Value).ownBlock) v147 t146 t149 t153 t154 t157 w _ ?side1 ?side2 ?side3 A9.out).mono ?_); (case side1 => repeat (first | (with_reducible first | exact HI150.out | apply IsS61.alloc | apply IsS61.drewN | apply IsS61.drew | apply IsS61.set_0 | apply IsS61.set_1 | refine IsS61.far ?_ NB150_144.out _) | exact HI150.out)); (case side2 => repeat (first | (with_reducible first | exact HB.out | apply below_alloc | apply pw_below_drewN | apply below_drew1 | refine below_set ?_ (IsS61.ge HI150.out) | refine below_set ?_ GE144.out) | exact HB.out)); (case side3 => exact Kd.R_tight rfl HO148.out); rintro e w10 ⟨v155, rfl, ho0, hi, hb, hkp⟩; have n0_ := Aside0.mk (blk_kept (by (with_reducible repeat (first | refine blk_drewN ?_ _ | refine blk_drew ?_ | refine blk_alloc ?_ _)); exact BK144.out) hkp (fun hs_ => Or.elim hs_ (fun hs_ => (fun e_ => (Kd.R_ne HO148.out BK144.out (by decide)) e_) hs_) (fun e_ => NB144_150.out e_))); have n1_ := Aside0.mk (hi); have n2_ := Aside0.mk (Kd.R_mono (ok' := fun k_ => True) ho0 (fun k_ hk_ => trivial)); have n3_ := Aside0.mk (hb); clear BK144; clear HI150; clear HB; clear HO148; have BK144 := n0_; have HI150 := n1_; have HO156 := n2_; have HB := n3_; clear n0_ n1_ n2_ n3_; (try clear hb); (try clear hkp); (try clear ho0)))
        go_meet
        case rel => exact ⟨_, ((t153 != 0)), (t154), (t157), (v155), (by first | rfl | (simp; done) | (simp [*]; done)), H', ⟨by first | omega | exact Nat.le_refl _⟩, ⟨by (with_reducible repeat (first | apply Kd.R_alloc | apply Kd.R_drewN | apply Kd.R_drew)); exact HO156.out⟩, ⟨by (with_reducible repeat (first | refine blk_drewN ?_ _ | refine blk_drew ?_ | refine blk_alloc ?_ _)); exact BK144.out⟩, ⟨by repeat (first | (with_reducible first | exact HI150.out | apply IsS61.alloc | apply IsS61.drewN | apply IsS61.drew | apply IsS61.set_0 | apply IsS61.set_1 | refine IsS61.far ?_ NB150_144.out _) | exact HI150.out)⟩, ⟨by repeat (first | (with_reducible first | exact HB.out | apply below_alloc | apply pw_below_drewN | apply below_drew1 | refine below_set ?_ (IsS61.ge HI150.out) | refine below_set ?_ GE144.out) | exact HB.out)⟩⟩
      · rw [if_neg c8] at H
        have c8b0 : (t152 == 0) = false := beq_eq_false_iff_ne.mpr c8
        have c8b1 : (t152 != 0) = true := bne_iff_ne.mpr c8
        (first | rw [c8b0] | (simp only [i64_w, i32_w]; rw [c8b0]) | skip)
        have H' := Aside0.mk H
        clear H
        go_wp2_with (first | ((with_reducible refine gate_callee (f := 8) rfl ?_); refine goesL_ (some 22) rfl rfl Try.func8 (by kernel_rfl) rfl #[.int .i64 t151] rfl (by (try simp only [List.map_toArray, List.map_cons, List.map_nil]); first | done | rfl | (simp only [List.length_drop, List.length_take]; rfl)) ?_; (with_reducible refine (gangwaylaw9_num.calls t151 t152 _ A7.out).mono ?_); rintro e w' ⟨rfl, ⟨nd, rfl⟩⟩; refine ⟨_, rfl, ?_⟩))
        go_meet
        case rel => exact ⟨_, (true), (t146), (t149), (v147), (by first | rfl | (simp; done) | (simp [*]; done)), H', ⟨by first | omega | exact Nat.le_refl _⟩, ⟨by (with_reducible repeat (first | apply Kd.R_alloc | apply Kd.R_drewN | apply Kd.R_drew)); exact HO148.out⟩, ⟨by (with_reducible repeat (first | refine blk_drewN ?_ _ | refine blk_drew ?_ | refine blk_alloc ?_ _)); exact BK144.out⟩, ⟨by repeat (first | (with_reducible first | exact HI150.out | apply IsS61.alloc | apply IsS61.drewN | apply IsS61.drew | apply IsS61.set_0 | apply IsS61.set_1 | refine IsS61.far ?_ NB150_144.out _) | exact HI150.out)⟩, ⟨by repeat (first | (with_reducible first | exact HB.out | apply below_alloc | apply pw_below_drewN | apply below_drew1 | refine below_set ?_ (IsS61.ge HI150.out) | refine below_set ?_ GE144.out) | exact HB.out)⟩⟩
    case rest =>
      clear HC4
      try clear p2
      try clear c3
      try clear c7
      try clear c8
      try clear c8b0
      try clear c8b1
      obtain ⟨kq, x32_3, x151000_3, x151001_3, u151000, rfl, HA, HJ3, HO_151000, BK144, HI150, HB⟩ := hcut
      cases kq with
      | zero => exact absurd HA.out (by simp [gangwaylaw9_MemGrows.j0])
      | succ kj3 =>
        have H := HA.out
        clear HA
        simp only [gangwaylaw9_MemGrows.j0] at H
        have HC11 := Aside0.mk H
        clear H
        go_upto_if 32 with (fail)
        go_cut [] (fun wc => ∃ (kq : Nat), Aside0 (gangwaylaw9_MemGrows.j1 kq a0_0 a0_1 a0_2 l0_3 x151000_3 x151001_3 = some r) ∧ Aside0 (kq ≤ kj3) ∧ Aside0 (Kd.R (Kd.int .u8) 5 wc w.heap.size (fun _ => True) u151000 x151000_3) ∧ Aside0 (wc.heap[gb144]? = some (.cells #[.int .i64 a0_0, .int .i64 a0_1, .int .i64 a0_2, (.slice A0_3 l0_3.length c0_3)] 26 (0, 0))) ∧ Aside0 (IsS61 w wc g150 u151000 x151001_3) ∧ Aside0 (Below w.heap.size w wc))
        case first =>
          have H := HC11.out
          clear HC11
          by_cases c12 : x32_3 = true
          · subst c12
            have H1 : (none) = some r := by rw [if_pos rfl] at H; exact H
            clear H
            have H := H1
            clear H1
            exact absurd H (by simp)
          · replace c12 := Bool.eq_false_iff.mpr c12
            subst c12
            have H1 : (gangwaylaw9_MemGrows.j1 kj3 a0_0 a0_1 a0_2 l0_3 x151000_3 x151001_3) = some r := by rw [if_neg (show ¬ (false = true) by decide)] at H; exact H
            clear H
            have H := H1
            clear H1
            have H' := Aside0.mk H
            clear H
            go_wp2
            go_meet
            case rel => exact ⟨_, H', ⟨by have := HJ3.out; first | omega | exact Nat.le_refl _⟩, ⟨by (with_reducible repeat (first | apply Kd.R_alloc | apply Kd.R_drewN | apply Kd.R_drew)); exact HO_151000.out⟩, ⟨by (with_reducible repeat (first | refine blk_drewN ?_ _ | refine blk_drew ?_ | refine blk_alloc ?_ _)); exact BK144.out⟩, ⟨by repeat (first | (with_reducible first | exact HI150.out | apply IsS61.alloc | apply IsS61.drewN | apply IsS61.drew | apply IsS61.set_0 | apply IsS61.set_1 | refine IsS61.far ?_ NB150_144.out _) | exact HI150.out)⟩, ⟨by repeat (first | (with_reducible first | exact HB.out | apply below_alloc | apply pw_below_drewN | apply below_drew1 | refine below_set ?_ (IsS61.ge HI150.out) | refine below_set ?_ GE144.out) | exact HB.out)⟩⟩
        case rest =>
          clear HC11
          try clear c1
          try clear p2
          try clear c3
          try clear c7
          try clear c8
          try clear c8b0
          try clear c8b1
          try clear c12
          try clear p2
          obtain ⟨kq, HA, HJ10, HO_151000, BK144, HI150, HB⟩ := hcut
          cases kq with
          | zero => exact absurd HA.out (by simp [gangwaylaw9_MemGrows.j1])
          | succ kj10 =>
            have H := HA.out
            clear HA
            simp only [gangwaylaw9_MemGrows.j1] at H
            have HC13 := Aside0.mk H
            clear H
            go_upto_block 0 with (fail)
            go_cut [] (fun wc => ∃ (kq : Nat) (x151000_12 : List Int) (x151001_12 : Int) (u151000 : Value), Aside0 (gangwaylaw9_MemGrows.j7 kq a0_0 a0_1 a0_2 l0_3 x151000_12 x151001_12 = some r) ∧ Aside0 (kq ≤ kj10) ∧ Aside0 (Kd.R (Kd.int .u8) 5 wc w.heap.size (fun _ => True) u151000 x151000_12) ∧ Aside0 (wc.heap[gb144]? = some (.cells #[.int .i64 a0_0, .int .i64 a0_1, .int .i64 a0_2, (.slice A0_3 l0_3.length c0_3)] 26 (0, 0))) ∧ Aside0 (IsS61 w wc g150 u151000 x151001_12) ∧ Aside0 (Below w.heap.size w wc))
            case first =>
              have H := HC13.out
              clear HC13
              have H' := Aside0.mk H
              clear H
              go_wp2
              go_loopg [5] kj10 (fun kq v5 w' => ∃ (x5_3 : Int) (x151000_3 : List Int) (x151001_3 : Int) (u151000 : Value), v5 = .int .i64 x5_3 ∧ Aside0 (gangwaylaw9_MemGrows.l0 kq x5_3 a0_0 a0_1 a0_2 l0_3 x151000_3 x151001_3 = some r) ∧ Aside0 (kq ≤ kj10) ∧ Aside0 (Kd.R (Kd.int .u8) 5 w' w.heap.size (fun _ => True) u151000 x151000_3) ∧ Aside0 (w'.heap[gb144]? = some (.cells #[.int .i64 a0_0, .int .i64 a0_1, .int .i64 a0_2, (.slice A0_3 l0_3.length c0_3)] 26 (0, 0))) ∧ Aside0 (IsS61 w w' g150 u151000 x151001_3) ∧ Aside0 (Below w.heap.size w w'))
              case atStart => exact ⟨(0), (x151000_3), (x151001_3), (u151000), (by first | rfl | (simp; done) | (simp [*]; done)), H', ⟨Nat.le_refl _⟩, ⟨by (with_reducible repeat (first | apply Kd.R_alloc | apply Kd.R_drewN | apply Kd.R_drew)); exact HO_151000.out⟩, ⟨by (with_reducible repeat (first | refine blk_drewN ?_ _ | refine blk_drew ?_ | refine blk_alloc ?_ _)); exact BK144.out⟩, ⟨by repeat (first | (with_reducible first | exact HI150.out | apply IsS61.alloc | apply IsS61.drewN | apply IsS61.drew | apply IsS61.set_0 | apply IsS61.set_1 | refine IsS61.far ?_ NB150_144.out _) | exact HI150.out)⟩, ⟨by repeat (first | (with_reducible first | exact HB.out | apply below_alloc | apply pw_below_drewN | apply below_drew1 | refine below_set ?_ (IsS61.ge HI150.out) | refine below_set ?_ GE144.out) | exact HB.out)⟩⟩
              case round =>
                clear H'
                try clear c1
                try clear p2
                try clear c3
                try clear c7
                try clear c8
                try clear c8b0
                try clear c8b1
                try clear c12
                try clear p2
                obtain ⟨x5_3, x151000_3, x151001_3, u151000, rfl, HA, HK3, HO_151000, BK144, HI150, HB⟩ := hrel
                cases gk with
                | zero => exact absurd HA.out (by simp [gangwaylaw9_MemGrows.l0])
                | succ k3 =>
                  have H := HA.out
                  clear HA
                  simp only [gangwaylaw9_MemGrows.l0] at H
                  have HC14 := Aside0.mk H
                  clear H
                  go_upto_if 34 with (fail)
                  go_cut [] (fun wc => ∃ (kq : Nat), Aside0 (gangwaylaw9_MemGrows.j3 kq x5_3 a0_0 a0_1 a0_2 l0_3 x151000_3 x151001_3 = some r) ∧ Aside0 (kq ≤ k3) ∧ Aside0 (Kd.R (Kd.int .u8) 5 wc w.heap.size (fun _ => True) u151000 x151000_3) ∧ Aside0 (wc.heap[gb144]? = some (.cells #[.int .i64 a0_0, .int .i64 a0_1, .int .i64 a0_2, (.slice A0_3 l0_3.length c0_3)] 26 (0, 0))) ∧ Aside0 (IsS61 w wc g150 u151000 x151001_3) ∧ Aside0 (Below w.heap.size w wc))
                  case first =>
                    have H := HC14.out
                    clear HC14
                    by_cases c15 : x5_3 < 4
                    · rw [if_pos c15] at H
                      have c15b0 : decide (x5_3 < 4) = true := decide_eq_true c15
                      clear c15
                      (first | rw [c15b0] | (simp only [i64_w, i32_w]; rw [c15b0]) | skip)
                      have H' := Aside0.mk H
                      clear H
                      go_wp2
                      go_meet
                      case rel => exact ⟨_, H', ⟨by have := HJ3.out; have := HJ10.out; have := HK3.out; first | omega | exact Nat.le_refl _⟩, ⟨by (with_reducible repeat (first | apply Kd.R_alloc | apply Kd.R_drewN | apply Kd.R_drew)); exact HO_151000.out⟩, ⟨by (with_reducible repeat (first | refine blk_drewN ?_ _ | refine blk_drew ?_ | refine blk_alloc ?_ _)); exact BK144.out⟩, ⟨by repeat (first | (with_reducible first | exact HI150.out | apply IsS61.alloc | apply IsS61.drewN | apply IsS61.drew | apply IsS61.set_0 | apply IsS61.set_1 | refine IsS61.far ?_ NB150_144.out _) | exact HI150.out)⟩, ⟨by repeat (first | (with_reducible first | exact HB.out | apply below_alloc | apply pw_below_drewN | apply below_drew1 | refine below_set ?_ (IsS61.ge HI150.out) | refine below_set ?_ GE144.out) | exact HB.out)⟩⟩
                    · rw [if_neg c15] at H
                      have c15b0 : decide (x5_3 < 4) = false := decide_eq_false c15
                      clear c15
                      (first | rw [c15b0] | (simp only [i64_w, i32_w]; rw [c15b0]) | skip)
                      have H' := Aside0.mk H
                      clear H
                      go_wp2
                      go_meet
                      case rel => exact ⟨_, (x151000_3), (x151001_3), (u151000), H', ⟨by have := HJ3.out; have := HJ10.out; have := HK3.out; first | omega | exact Nat.le_refl _⟩, ⟨by (with_reducible repeat (first | apply Kd.R_alloc | apply Kd.R_drewN | apply Kd.R_drew)); exact HO_151000.out⟩, ⟨by (with_reducible repeat (first | refine blk_drewN ?_ _ | refine blk_drew ?_ | refine blk_alloc ?_ _)); exact BK144.out⟩, ⟨by repeat (first | (with_reducible first | exact HI150.out | apply IsS61.alloc | apply IsS61.drewN | apply IsS61.drew | apply IsS61.set_0 | apply IsS61.set_1 | refine IsS61.far ?_ NB150_144.out _) | exact HI150.out)⟩, ⟨by repeat (first | (with_reducible first | exact HB.out | apply below_alloc | apply pw_below_drewN | apply below_drew1 | refine below_set ?_ (IsS61.ge HI150.out) | refine below_set ?_ GE144.out) | exact HB.out)⟩⟩
                  case rest =>
                    clear HC14
                    try clear c1
                    try clear p2
                    try clear c3
                    try clear c7
                    try clear c8
                    try clear c8b0
                    try clear c8b1
                    try clear c12
                    try clear c15
                    try clear c15b0
                    try clear p2
                    obtain ⟨kq, HA, HJ13, HO_151000, BK144, HI150, HB⟩ := hcut
                    cases kq with
                    | zero => exact absurd HA.out (by simp [gangwaylaw9_MemGrows.j3])
                    | succ kj13 =>
                      have H := HA.out
                      clear HA
                      simp only [gangwaylaw9_MemGrows.j3] at H
                      replace H := Option.bind_eq_some_iff.mp H
                      obtain ⟨⟨t158, t159, t162⟩, A160, H⟩ := H
                      replace H : (if x5_3 = 3 then (if t158 = (-1) then ((mem_Memory_Size.f t159 t162).bind fun bt163 => (gangwaylaw9_MemGrows.j4 kj13 (bt163.1 != 3) a0_0 a0_1 a0_2 l0_3 bt163.2.1 bt163.2.2)) else (none)) else (gangwaylaw9_MemGrows.j5 kj13 x5_3 t158 a0_0 a0_1 a0_2 l0_3 t159 t162)) = some r := H
                      have A16 := Aside0.mk A160
                      clear A160
                      have HC17 := Aside0.mk H
                      clear H
                      go_upto_if 40 with (first | ((with_reducible refine gate_callee (f := 10) rfl ?_); refine goesL_ (some 38) rfl rfl Try.func10 (by kernel_rfl) rfl #[.pointer (some ⟨g150, 0, none⟩), .int .i64 1] rfl (by (try simp only [List.map_toArray, List.map_cons, List.map_nil]); first | done | rfl | (simp only [List.length_drop, List.length_take]; rfl)) ?_; (with_reducible refine (mem_Memory_Grow.calls g150 (fun k_ => some k_ = (u151000 : Value).ownBlock) u151000 x151000_3 x151001_3 1 t158 t159 t162 w _ ?side1 ?side2 ?side3 A16.out).mono ?_); (case side1 => repeat (first | (with_reducible first | exact HI150.out | apply IsS61.alloc | apply IsS61.drewN | apply IsS61.drew | apply IsS61.set_0 | apply IsS61.set_1 | refine IsS61.far ?_ NB150_144.out _) | exact HI150.out)); (case side2 => repeat (first | (with_reducible first | exact HB.out | apply below_alloc | apply pw_below_drewN | apply below_drew1 | refine below_set ?_ (IsS61.ge HI150.out) | refine below_set ?_ GE144.out) | exact HB.out)); (case side3 => exact Kd.R_tight rfl HO_151000.out); rintro e w18 ⟨v160, rfl, ho0, hi, hb, hkp⟩; refine ⟨_, rfl, ?_⟩; have n0_ := Aside0.mk (blk_kept (by (with_reducible repeat (first | refine blk_drewN ?_ _ | refine blk_drew ?_ | refine blk_alloc ?_ _)); exact BK144.out) hkp (fun hs_ => Or.elim hs_ (fun hs_ => (fun e_ => (Kd.R_ne HO_151000.out BK144.out (by decide)) e_) hs_) (fun e_ => NB144_150.out e_))); have n1_ := Aside0.mk (hi); have n2_ := Aside0.mk (Kd.R_mono (ok' := fun k_ => True) ho0 (fun k_ hk_ => trivial)); have n3_ := Aside0.mk (hb); clear BK144; clear HI150; clear HB; clear HO_151000; have BK144 := n0_; have HI150 := n1_; have HO161 := n2_; have HB := n3_; clear n0_ n1_ n2_ n3_; (try clear hb); (try clear hkp); (try clear ho0)))
                      (try simp only [Act.put, List.setIfInBounds_toArray, List.set_cons_zero, List.set_cons_succ])
                      go_cut [] (fun wc => ∃ (kq : Nat) (x151000_16 : List Int) (x151001_16 : Int) (u151000 : Value), Aside0 (gangwaylaw9_MemGrows.j5 kq x5_3 t158 a0_0 a0_1 a0_2 l0_3 x151000_16 x151001_16 = some r) ∧ Aside0 (kq ≤ kj13) ∧ Aside0 (Kd.R (Kd.int .u8) 5 wc w.heap.size (fun _ => True) u151000 x151000_16) ∧ Aside0 (wc.heap[gb144]? = some (.cells #[.int .i64 a0_0, .int .i64 a0_1, .int .i64 a0_2, (.slice A0_3 l0_3.length c0_3)] 26 (0, 0))) ∧ Aside0 (IsS61 w wc g150 u151000 x151001_16) ∧ Aside0 (Below w.heap.size w wc))
                      case first =>
                        have H := HC17.out
                        clear HC17
                        by_cases c19 : x5_3 = 3
                        · rw [if_pos c19] at H
                          have c19b0 : (x5_3 == 3) = true := beq_iff_eq.mpr c19
                          have c19b1 : (x5_3 != 3) = false := bne_eq_false_iff_eq.mpr c19
                          clear c19
                          (first | rw [c19b0] | (simp only [i64_w, i32_w]; rw [c19b0]) | skip)
                          have HC20 := Aside0.mk H
                          clear H
                          go_upto_region 9 with (fail)
                          go_cut [47] (fun v47 wc => ∃ (kq : Nat) (x47_19 : Bool) (x151000_19 : List Int) (x151001_19 : Int) (u151000 : Value), v47 = .bool x47_19 ∧ Aside0 (gangwaylaw9_MemGrows.j4 kq x47_19 a0_0 a0_1 a0_2 l0_3 x151000_19 x151001_19 = some r) ∧ Aside0 (kq ≤ kj13) ∧ Aside0 (Kd.R (Kd.int .u8) 5 wc w.heap.size (fun _ => True) u151000 x151000_19) ∧ Aside0 (wc.heap[gb144]? = some (.cells #[.int .i64 a0_0, .int .i64 a0_1, .int .i64 a0_2, (.slice A0_3 l0_3.length c0_3)] 26 (0, 0))) ∧ Aside0 (IsS61 w wc g150 u151000 x151001_19) ∧ Aside0 (Below w.heap.size w wc))
                          case first =>
                            have H := HC20.out
                            clear HC20
                            by_cases c21 : t158 = (-1)
                            · rw [if_pos c21] at H
                              have c21b0 : (t158 == (-1)) = true := beq_iff_eq.mpr c21
                              have c21b1 : (t158 != (-1)) = false := bne_eq_false_iff_eq.mpr c21
                              clear c21
                              (first | rw [c21b0] | (simp only [i64_w, i32_w]; rw [c21b0]) | skip)
                              replace H := Option.bind_eq_some_iff.mp H
                              obtain ⟨⟨t163, t164, t167⟩, A220, H⟩ := H
                              replace H : (gangwaylaw9_MemGrows.j4 kj13 (t163 != 3) a0_0 a0_1 a0_2 l0_3 t164 t167) = some r := H
                              have A22 := Aside0.mk A220
                              clear A220
                              have H' := Aside0.mk H
                              clear H
                              go_wp2_with (first | (go_at_call 9; (with_reducible refine (mem_Memory_Size.calls g150 (fun k_ => some k_ = (v160 : Value).ownBlock) v160 t159 t162 t163 t164 t167 w _ ?side1 ?side2 ?side3 A22.out).mono ?_); (case side1 => repeat (first | (with_reducible first | exact HI150.out | apply IsS61.alloc | apply IsS61.drewN | apply IsS61.drew | apply IsS61.set_0 | apply IsS61.set_1 | refine IsS61.far ?_ NB150_144.out _) | exact HI150.out)); (case side2 => repeat (first | (with_reducible first | exact HB.out | apply below_alloc | apply pw_below_drewN | apply below_drew1 | refine below_set ?_ (IsS61.ge HI150.out) | refine below_set ?_ GE144.out) | exact HB.out)); (case side3 => exact Kd.R_tight rfl HO161.out); rintro e w23 ⟨v165, rfl, ho0, hi, hb, hkp⟩; have n0_ := Aside0.mk (blk_kept (by (with_reducible repeat (first | refine blk_drewN ?_ _ | refine blk_drew ?_ | refine blk_alloc ?_ _)); exact BK144.out) hkp (fun hs_ => Or.elim hs_ (fun hs_ => (fun e_ => (Kd.R_ne HO161.out BK144.out (by decide)) e_) hs_) (fun e_ => NB144_150.out e_))); have n1_ := Aside0.mk (hi); have n2_ := Aside0.mk (Kd.R_mono (ok' := fun k_ => True) ho0 (fun k_ hk_ => trivial)); have n3_ := Aside0.mk (hb); clear BK144; clear HI150; clear HB; clear HO161; have BK144 := n0_; have HI150 := n1_; have HO166 := n2_; have HB := n3_; clear n0_ n1_ n2_ n3_; (try clear hb); (try clear hkp); (try clear ho0)))
                              go_meet
                              case rel => exact ⟨_, ((t163 != 3)), (t164), (t167), (v165), (by first | rfl | (simp; done) | (simp [*]; done)), H', ⟨by have := HJ3.out; have := HJ10.out; have := HK3.out; have := HJ13.out; first | omega | exact Nat.le_refl _⟩, ⟨by (with_reducible repeat (first | apply Kd.R_alloc | apply Kd.R_drewN | apply Kd.R_drew)); exact HO166.out⟩, ⟨by (with_reducible repeat (first | refine blk_drewN ?_ _ | refine blk_drew ?_ | refine blk_alloc ?_ _)); exact BK144.out⟩, ⟨by repeat (first | (with_reducible first | exact HI150.out | apply IsS61.alloc | apply IsS61.drewN | apply IsS61.drew | apply IsS61.set_0 | apply IsS61.set_1 | refine IsS61.far ?_ NB150_144.out _) | exact HI150.out)⟩, ⟨by repeat (first | (with_reducible first | exact HB.out | apply below_alloc | apply pw_below_drewN | apply below_drew1 | refine below_set ?_ (IsS61.ge HI150.out) | refine below_set ?_ GE144.out) | exact HB.out)⟩⟩
                            · rw [if_neg c21] at H
                              exact absurd H (by simp)
                          case rest =>
                            clear HC20
                            try clear c1
                            try clear c2
                            try clear p2
                            try clear c3
                            try clear c7
                            try clear c8
                            try clear c8b0
                            try clear c8b1
                            try clear c10
                            try clear c12
                            try clear c15
                            try clear c15b0
                            try clear c19
                            try clear c19b0
                            try clear c19b1
                            try clear c21
                            try clear c21b0
                            try clear c21b1
                            try clear p2
                            obtain ⟨kq, x47_19, x151000_19, x151001_19, u151000, rfl, HA, HJ19, HO_151000, BK144, HI150, HB⟩ := hcut
                            cases kq with
                            | zero => exact absurd HA.out (by simp [gangwaylaw9_MemGrows.j4])
                            | succ kj19 =>
                              have H := HA.out
                              clear HA
                              simp only [gangwaylaw9_MemGrows.j4] at H
                              by_cases c24 : x47_19 = true
                              · subst c24
                                have H1 : (none) = some r := by rw [if_pos rfl] at H; exact H
                                clear H
                                have H := H1
                                clear H1
                                exact absurd H (by simp)
                              · replace c24 := Bool.eq_false_iff.mpr c24
                                subst c24
                                have H1 : (gangwaylaw9_MemGrows.j7 kj19 a0_0 a0_1 a0_2 l0_3 x151000_19 x151001_19) = some r := by rw [if_neg (show ¬ (false = true) by decide)] at H; exact H
                                clear H
                                have H := H1
                                clear H1
                                have H' := Aside0.mk H
                                clear H
                                go_wp2
                                go_meet
                                case rel => exact ⟨_, (x151000_19), (x151001_19), (u151000), H', ⟨by have := HJ3.out; have := HJ10.out; have := HK3.out; have := HJ13.out; have := HJ19.out; first | omega | exact Nat.le_refl _⟩, ⟨by (with_reducible repeat (first | apply Kd.R_alloc | apply Kd.R_drewN | apply Kd.R_drew)); exact HO_151000.out⟩, ⟨by (with_reducible repeat (first | refine blk_drewN ?_ _ | refine blk_drew ?_ | refine blk_alloc ?_ _)); exact BK144.out⟩, ⟨by repeat (first | (with_reducible first | exact HI150.out | apply IsS61.alloc | apply IsS61.drewN | apply IsS61.drew | apply IsS61.set_0 | apply IsS61.set_1 | refine IsS61.far ?_ NB150_144.out _) | exact HI150.out)⟩, ⟨by repeat (first | (with_reducible first | exact HB.out | apply below_alloc | apply pw_below_drewN | apply below_drew1 | refine below_set ?_ (IsS61.ge HI150.out) | refine below_set ?_ GE144.out) | exact HB.out)⟩⟩
                        · rw [if_neg c19] at H
                          have c19b0 : (x5_3 == 3) = false := beq_eq_false_iff_ne.mpr c19
                          have c19b1 : (x5_3 != 3) = true := bne_iff_ne.mpr c19
                          (first | rw [c19b0] | (simp only [i64_w, i32_w]; rw [c19b0]) | skip)
                          have H' := Aside0.mk H
                          clear H
                          go_wp2
                          go_meet
                          case rel => exact ⟨_, (t159), (t162), (v160), H', ⟨by have := HJ3.out; have := HJ10.out; have := HK3.out; have := HJ13.out; first | omega | exact Nat.le_refl _⟩, ⟨by (with_reducible repeat (first | apply Kd.R_alloc | apply Kd.R_drewN | apply Kd.R_drew)); exact HO161.out⟩, ⟨by (with_reducible repeat (first | refine blk_drewN ?_ _ | refine blk_drew ?_ | refine blk_alloc ?_ _)); exact BK144.out⟩, ⟨by repeat (first | (with_reducible first | exact HI150.out | apply IsS61.alloc | apply IsS61.drewN | apply IsS61.drew | apply IsS61.set_0 | apply IsS61.set_1 | refine IsS61.far ?_ NB150_144.out _) | exact HI150.out)⟩, ⟨by repeat (first | (with_reducible first | exact HB.out | apply below_alloc | apply pw_below_drewN | apply below_drew1 | refine below_set ?_ (IsS61.ge HI150.out) | refine below_set ?_ GE144.out) | exact HB.out)⟩⟩
                      case rest =>
                        clear HC17
                        try clear c1
                        try clear c2
                        try clear p2
                        try clear c3
                        try clear c7
                        try clear c8
                        try clear c8b0
                        try clear c8b1
                        try clear c10
                        try clear c12
                        try clear c15
                        try clear c15b0
                        try clear c19
                        try clear c19b0
                        try clear c19b1
                        try clear c21
                        try clear c21b0
                        try clear c21b1
                        try clear c24
                        try clear p2
                        obtain ⟨kq, x151000_16, x151001_16, u151000, HA, HJ16, HO_151000, BK144, HI150, HB⟩ := hcut
                        cases kq with
                        | zero => exact absurd HA.out (by simp [gangwaylaw9_MemGrows.j5])
                        | succ kj16 =>
                          have H := HA.out
                          clear HA
                          simp only [gangwaylaw9_MemGrows.j5] at H
                          replace H := Option.bind_eq_some_iff.mp H
                          obtain ⟨⟨t168, t169, t170, t173⟩, A250, H⟩ := H
                          replace H : (if t158 = x5_3 then ((mem_Memory_Size.f t170 t173).bind fun bt174 => (if bt174.1 = (wrap64 (x5_3 + 1)) then ((gangwaylaw9_num.f t169).bind fun t179 => (if t179 = 0 then (if t168 = 0 then ((mem_Memory_Store.f bt174.2.1 bt174.2.2 (wrap64 (x5_3 * 65536)) 5 4 (IntKind.u64.wrap (wrap64 (x5_3 + 1)))).bind fun bt180 => ((gangwaylaw9_num.f bt180.1).bind fun t185 => (gangwaylaw9_MemGrows.j6 kj16 x5_3 (t185 != 0) a0_0 a0_1 a0_2 l0_3 bt180.2.1 bt180.2.2))) else (none)) else (none))) else (none))) else (none)) = some r := H
                          have A25 := Aside0.mk A250
                          clear A250
                          have HC26 := Aside0.mk H
                          clear H
                          go_upto_region 12 with (first | ((with_reducible refine gate_callee (f := 11) rfl ?_); refine goesL_ (some 52) rfl rfl Try.func11 (by kernel_rfl) rfl #[.pointer (some ⟨g150, 0, none⟩), .int .i64 (wrap64 (x5_3 * 65536)), .int .i64 65528, .int .i64 8] rfl (by (try simp only [List.map_toArray, List.map_cons, List.map_nil]); first | done | rfl | (simp only [List.length_drop, List.length_take]; rfl)) ?_; (with_reducible refine (mem_Memory_Load.calls kj16 g150 (fun k_ => some k_ = (u151000 : Value).ownBlock) u151000 x151000_16 x151001_16 (wrap64 (x5_3 * 65536)) 65528 8 t168 t169 t170 t173 w _ ?side1 ?side2 ?side3 A25.out).mono ?_); (case side1 => repeat (first | (with_reducible first | exact HI150.out | apply IsS61.alloc | apply IsS61.drewN | apply IsS61.drew | apply IsS61.set_0 | apply IsS61.set_1 | refine IsS61.far ?_ NB150_144.out _) | exact HI150.out)); (case side2 => repeat (first | (with_reducible first | exact HB.out | apply below_alloc | apply pw_below_drewN | apply below_drew1 | refine below_set ?_ (IsS61.ge HI150.out) | refine below_set ?_ GE144.out) | exact HB.out)); (case side3 => exact Kd.R_tight rfl HO_151000.out); rintro e w27 ⟨v171, rfl, ho0, hi, hb, hkp⟩; refine ⟨_, rfl, ?_⟩; have n0_ := Aside0.mk (blk_kept (by (with_reducible repeat (first | refine blk_drewN ?_ _ | refine blk_drew ?_ | refine blk_alloc ?_ _)); exact BK144.out) hkp (fun hs_ => Or.elim hs_ (fun hs_ => (fun e_ => (Kd.R_ne HO_151000.out BK144.out (by decide)) e_) hs_) (fun e_ => NB144_150.out e_))); have n1_ := Aside0.mk (hi); have n2_ := Aside0.mk (Kd.R_mono (ok' := fun k_ => True) ho0 (fun k_ hk_ => trivial)); have n3_ := Aside0.mk (hb); clear BK144; clear HI150; clear HB; clear HO_151000; have BK144 := n0_; have HI150 := n1_; have HO172 := n2_; have HB := n3_; clear n0_ n1_ n2_ n3_; (try clear hb); (try clear hkp); (try clear ho0)))
                          (try simp only [Act.put, List.setIfInBounds_toArray, List.set_cons_zero, List.set_cons_succ])
                          go_cut [84] (fun v84 wc => ∃ (kq : Nat) (x84_25 : Bool) (x151000_25 : List Int) (x151001_25 : Int) (u151000 : Value), v84 = .bool x84_25 ∧ Aside0 (gangwaylaw9_MemGrows.j6 kq x5_3 x84_25 a0_0 a0_1 a0_2 l0_3 x151000_25 x151001_25 = some r) ∧ Aside0 (kq ≤ kj16) ∧ Aside0 (Kd.R (Kd.int .u8) 5 wc w.heap.size (fun _ => True) u151000 x151000_25) ∧ Aside0 (wc.heap[gb144]? = some (.cells #[.int .i64 a0_0, .int .i64 a0_1, .int .i64 a0_2, (.slice A0_3 l0_3.length c0_3)] 26 (0, 0))) ∧ Aside0 (IsS61 w wc g150 u151000 x151001_25) ∧ Aside0 (Below w.heap.size w wc))
                          case first =>
                            have H := HC26.out
                            clear HC26
                            by_cases c28 : t158 = x5_3
                            · rw [if_pos c28] at H
                              have c28b0 : (t158 == x5_3) = true := beq_iff_eq.mpr c28
                              have c28b1 : (t158 != x5_3) = false := bne_eq_false_iff_eq.mpr c28
                              clear c28
                              (first | rw [c28b0] | (simp only [i64_w, i32_w]; rw [c28b0]) | skip)
                              replace H := Option.bind_eq_some_iff.mp H
                              obtain ⟨⟨t174, t175, t178⟩, A290, H⟩ := H
                              replace H : (if t174 = (wrap64 (x5_3 + 1)) then ((gangwaylaw9_num.f t169).bind fun t179 => (if t179 = 0 then (if t168 = 0 then ((mem_Memory_Store.f t175 t178 (wrap64 (x5_3 * 65536)) 5 4 (IntKind.u64.wrap (wrap64 (x5_3 + 1)))).bind fun bt180 => ((gangwaylaw9_num.f bt180.1).bind fun t185 => (gangwaylaw9_MemGrows.j6 kj16 x5_3 (t185 != 0) a0_0 a0_1 a0_2 l0_3 bt180.2.1 bt180.2.2))) else (none)) else (none))) else (none)) = some r := H
                              have A29 := Aside0.mk A290
                              clear A290
                              by_cases c30 : t174 = (wrap64 (x5_3 + 1))
                              · rw [if_pos c30] at H
                                have c30b0 : (t174 == (wrap64 (x5_3 + 1))) = true := beq_iff_eq.mpr c30
                                have c30b1 : (t174 != (wrap64 (x5_3 + 1))) = false := bne_eq_false_iff_eq.mpr c30
                                clear c30
                                replace H := Option.bind_eq_some_iff.mp H
                                obtain ⟨t179, A310, H⟩ := H
                                replace H : (if t179 = 0 then (if t168 = 0 then ((mem_Memory_Store.f t175 t178 (wrap64 (x5_3 * 65536)) 5 4 (IntKind.u64.wrap (wrap64 (x5_3 + 1)))).bind fun bt180 => ((gangwaylaw9_num.f bt180.1).bind fun t185 => (gangwaylaw9_MemGrows.j6 kj16 x5_3 (t185 != 0) a0_0 a0_1 a0_2 l0_3 bt180.2.1 bt180.2.2))) else (none)) else (none)) = some r := H
                                have A31 := Aside0.mk A310
                                clear A310
                                by_cases c32 : t179 = 0
                                · rw [if_pos c32] at H
                                  have c32b0 : (t179 == 0) = true := beq_iff_eq.mpr c32
                                  have c32b1 : (t179 != 0) = false := bne_eq_false_iff_eq.mpr c32
                                  clear c32
                                  by_cases c33 : t168 = 0
                                  · rw [if_pos c33] at H
                                    have c33b0 : (t168 == 0) = true := beq_iff_eq.mpr c33
                                    have c33b1 : (t168 != 0) = false := bne_eq_false_iff_eq.mpr c33
                                    clear c33
                                    replace H := Option.bind_eq_some_iff.mp H
                                    obtain ⟨⟨t180, t181, t184⟩, A340, H⟩ := H
                                    replace H : ((gangwaylaw9_num.f t180).bind fun t185 => (gangwaylaw9_MemGrows.j6 kj16 x5_3 (t185 != 0) a0_0 a0_1 a0_2 l0_3 t181 t184)) = some r := H
                                    have A34 := Aside0.mk A340
                                    clear A340
                                    replace H := Option.bind_eq_some_iff.mp H
                                    obtain ⟨t185, A350, H⟩ := H
                                    replace H : (gangwaylaw9_MemGrows.j6 kj16 x5_3 (t185 != 0) a0_0 a0_1 a0_2 l0_3 t181 t184) = some r := H
                                    have A35 := Aside0.mk A350
                                    clear A350
                                    have H' := Aside0.mk H
                                    clear H
                                    go_wp2_with (first | (go_at_call 9; (with_reducible refine (mem_Memory_Size.calls g150 (fun k_ => some k_ = (v171 : Value).ownBlock) v171 t170 t173 t174 t175 t178 w _ ?side1 ?side2 ?side3 A29.out).mono ?_); (case side1 => repeat (first | (with_reducible first | exact HI150.out | apply IsS61.alloc | apply IsS61.drewN | apply IsS61.drew | apply IsS61.set_0 | apply IsS61.set_1 | refine IsS61.far ?_ NB150_144.out _) | exact HI150.out)); (case side2 => repeat (first | (with_reducible first | exact HB.out | apply below_alloc | apply pw_below_drewN | apply below_drew1 | refine below_set ?_ (IsS61.ge HI150.out) | refine below_set ?_ GE144.out) | exact HB.out)); (case side3 => exact Kd.R_tight rfl HO172.out); rintro e w36 ⟨v176, rfl, ho0, hi, hb, hkp⟩; have n0_ := Aside0.mk (blk_kept (by (with_reducible repeat (first | refine blk_drewN ?_ _ | refine blk_drew ?_ | refine blk_alloc ?_ _)); exact BK144.out) hkp (fun hs_ => Or.elim hs_ (fun hs_ => (fun e_ => (Kd.R_ne HO172.out BK144.out (by decide)) e_) hs_) (fun e_ => NB144_150.out e_))); have n1_ := Aside0.mk (hi); have n2_ := Aside0.mk (Kd.R_mono (ok' := fun k_ => True) ho0 (fun k_ hk_ => trivial)); have n3_ := Aside0.mk (hb); clear BK144; clear HI150; clear HB; clear HO172; have BK144 := n0_; have HI150 := n1_; have HO177 := n2_; have HB := n3_; clear n0_ n1_ n2_ n3_; (try clear hb); (try clear hkp); (try clear ho0)) | (go_at_call 8; (with_reducible refine (gangwaylaw9_num.calls t169 t179 _ A31.out).mono ?_); rintro e w' ⟨rfl, ⟨nd, rfl⟩⟩) | (go_at_call 12; (with_reducible refine (mem_Memory_Store.calls g150 (fun k_ => some k_ = (v176 : Value).ownBlock) v176 t175 t178 (wrap64 (x5_3 * 65536)) 5 4 (IntKind.u64.wrap (wrap64 (x5_3 + 1))) t180 t181 t184 w _ ?side1 ?side2 ?side3 A34.out).mono ?_); (case side1 => repeat (first | (with_reducible first | exact HI150.out | apply IsS61.alloc | apply IsS61.drewN | apply IsS61.drew | apply IsS61.set_0 | apply IsS61.set_1 | refine IsS61.far ?_ NB150_144.out _) | exact HI150.out)); (case side2 => repeat (first | (with_reducible first | exact HB.out | apply below_alloc | apply pw_below_drewN | apply below_drew1 | refine below_set ?_ (IsS61.ge HI150.out) | refine below_set ?_ GE144.out) | exact HB.out)); (case side3 => exact Kd.R_tight rfl HO177.out); rintro e w37 ⟨v182, rfl, ho0, hi, hb, hkp⟩; have n0_ := Aside0.mk (blk_kept (by (with_reducible repeat (first | refine blk_drewN ?_ _ | refine blk_drew ?_ | refine blk_alloc ?_ _)); exact BK144.out) hkp (fun hs_ => Or.elim hs_ (fun hs_ => (fun e_ => (Kd.R_ne HO177.out BK144.out (by decide)) e_) hs_) (fun e_ => NB144_150.out e_))); have n1_ := Aside0.mk (hi); have n2_ := Aside0.mk (Kd.R_mono (ok' := fun k_ => True) ho0 (fun k_ hk_ => trivial)); have n3_ := Aside0.mk (hb); clear BK144; clear HI150; clear HB; clear HO177; have BK144 := n0_; have HI150 := n1_; have HO183 := n2_; have HB := n3_; clear n0_ n1_ n2_ n3_; (try clear hb); (try clear hkp); (try clear ho0)) | (go_at_call 8; (with_reducible refine (gangwaylaw9_num.calls t180 t185 _ A35.out).mono ?_); rintro e w' ⟨rfl, ⟨nd, rfl⟩⟩))
                                    go_meet
                                    case rel => exact ⟨_, ((t185 != 0)), (t181), (t184), (v182), (by first | rfl | (simp; done) | (simp [*]; done)), H', ⟨by have := HJ3.out; have := HJ10.out; have := HK3.out; have := HJ13.out; have := HJ16.out; first | omega | exact Nat.le_refl _⟩, ⟨by (with_reducible repeat (first | apply Kd.R_alloc | apply Kd.R_drewN | apply Kd.R_drew)); exact HO183.out⟩, ⟨by (with_reducible repeat (first | refine blk_drewN ?_ _ | refine blk_drew ?_ | refine blk_alloc ?_ _)); exact BK144.out⟩, ⟨by repeat (first | (with_reducible first | exact HI150.out | apply IsS61.alloc | apply IsS61.drewN | apply IsS61.drew | apply IsS61.set_0 | apply IsS61.set_1 | refine IsS61.far ?_ NB150_144.out _) | exact HI150.out)⟩, ⟨by repeat (first | (with_reducible first | exact HB.out | apply below_alloc | apply pw_below_drewN | apply below_drew1 | refine below_set ?_ (IsS61.ge HI150.out) | refine below_set ?_ GE144.out) | exact HB.out)⟩⟩
                                  · rw [if_neg c33] at H
                                    exact absurd H (by simp)
                                · rw [if_neg c32] at H
                                  exact absurd H (by simp)
                              · rw [if_neg c30] at H
                                exact absurd H (by simp)
                            · rw [if_neg c28] at H
                              exact absurd H (by simp)
                          case rest =>
                            clear HC26
                            try clear c1
                            try clear c2
                            try clear p2
                            try clear c3
                            try clear p6
                            try clear c7
                            try clear c8
                            try clear c8b0
                            try clear c8b1
                            try clear c10
                            try clear c11
                            try clear c12
                            try clear c15
                            try clear c15b0
                            try clear c19
                            try clear c19b0
                            try clear c19b1
                            try clear c21
                            try clear c21b0
                            try clear c21b1
                            try clear c24
                            try clear c28
                            try clear c28b0
                            try clear c28b1
                            try clear c30
                            try clear c30b0
                            try clear c30b1
                            try clear c32
                            try clear c32b0
                            try clear c32b1
                            try clear c33
                            try clear c33b0
                            try clear c33b1
                            try clear p2
                            obtain ⟨kq, x84_25, x151000_25, x151001_25, u151000, rfl, HA, HJ25, HO_151000, BK144, HI150, HB⟩ := hcut
                            cases kq with
                            | zero => exact absurd HA.out (by simp [gangwaylaw9_MemGrows.j6])
                            | succ kj25 =>
                              have H := HA.out
                              clear HA
                              simp only [gangwaylaw9_MemGrows.j6] at H
                              by_cases c38 : x84_25 = true
                              · subst c38
                                have H1 : (none) = some r := by rw [if_pos rfl] at H; exact H
                                clear H
                                have H := H1
                                clear H1
                                exact absurd H (by simp)
                              · replace c38 := Bool.eq_false_iff.mpr c38
                                subst c38
                                have H1 : (gangwaylaw9_MemGrows.l0 kj25 (wrap64 (x5_3 + 1)) a0_0 a0_1 a0_2 l0_3 x151000_25 x151001_25) = some r := by rw [if_neg (show ¬ (false = true) by decide)] at H; exact H
                                clear H
                                have H := H1
                                clear H1
                                have H' := Aside0.mk H
                                clear H
                                go_wp2
                                go_roundg kj25
                                case measure => have := HJ3.out; have := HJ10.out; have := HK3.out; have := HJ13.out; have := HJ16.out; have := HJ25.out; omega
                                case rel => exact ⟨(wrap64 (x5_3 + 1)), (x151000_25), (x151001_25), (u151000), (by first | rfl | (simp; done) | (simp [*]; done)), H', ⟨by have := HJ3.out; have := HJ10.out; have := HK3.out; have := HJ13.out; have := HJ16.out; have := HJ25.out; omega⟩, ⟨by (with_reducible repeat (first | apply Kd.R_alloc | apply Kd.R_drewN | apply Kd.R_drew)); exact HO_151000.out⟩, ⟨by (with_reducible repeat (first | refine blk_drewN ?_ _ | refine blk_drew ?_ | refine blk_alloc ?_ _)); exact BK144.out⟩, ⟨by repeat (first | (with_reducible first | exact HI150.out | apply IsS61.alloc | apply IsS61.drewN | apply IsS61.drew | apply IsS61.set_0 | apply IsS61.set_1 | refine IsS61.far ?_ NB150_144.out _) | exact HI150.out)⟩, ⟨by repeat (first | (with_reducible first | exact HB.out | apply below_alloc | apply pw_below_drewN | apply below_drew1 | refine below_set ?_ (IsS61.ge HI150.out) | refine below_set ?_ GE144.out) | exact HB.out)⟩⟩
            case rest =>
              clear HC13
              try clear c1
              try clear c2
              try clear p2
              try clear c3
              try clear p6
              try clear c7
              try clear c8
              try clear c8b0
              try clear c8b1
              try clear c10
              try clear c11
              try clear c12
              try clear c15
              try clear c15b0
              try clear c19
              try clear c19b0
              try clear c19b1
              try clear c21
              try clear c21b0
              try clear c21b1
              try clear c24
              try clear c28
              try clear c28b0
              try clear c28b1
              try clear c30
              try clear c30b0
              try clear c30b1
              try clear c32
              try clear c32b0
              try clear c32b1
              try clear c33
              try clear c33b0
              try clear c33b1
              try clear c38
              try clear p2
              try clear p6
              obtain ⟨kq, x151000_12, x151001_12, u151000, HA, HJ12, HO_151000, BK144, HI150, HB⟩ := hcut
              cases kq with
              | zero => exact absurd HA.out (by simp [gangwaylaw9_MemGrows.j7])
              | succ kj12 =>
                have H := HA.out
                clear HA
                simp only [gangwaylaw9_MemGrows.j7] at H
                have HC39 := Aside0.mk H
                clear H
                go_upto_block 2 with (fail)
                go_cut [] (fun wc => ∃ (kq : Nat) (x151000_38 : List Int) (x151001_38 : Int) (u151000 : Value), Aside0 (gangwaylaw9_MemGrows.j11 kq a0_0 a0_1 a0_2 l0_3 x151000_38 x151001_38 = some r) ∧ Aside0 (kq ≤ kj12) ∧ Aside0 (Kd.R (Kd.int .u8) 5 wc w.heap.size (fun _ => True) u151000 x151000_38) ∧ Aside0 (wc.heap[gb144]? = some (.cells #[.int .i64 a0_0, .int .i64 a0_1, .int .i64 a0_2, (.slice A0_3 l0_3.length c0_3)] 26 (0, 0))) ∧ Aside0 (IsS61 w wc g150 u151000 x151001_38) ∧ Aside0 (Below w.heap.size w wc))
                case first =>
                  have H := HC39.out
                  clear HC39
                  have H' := Aside0.mk H
                  clear H
                  go_wp2
                  go_loopg [9] kj12 (fun kq v9 w' => ∃ (x9_4 : Int) (x151000_4 : List Int) (x151001_4 : Int) (u151000 : Value), v9 = .int .i64 x9_4 ∧ Aside0 (gangwaylaw9_MemGrows.l1 kq x9_4 a0_0 a0_1 a0_2 l0_3 x151000_4 x151001_4 = some r) ∧ Aside0 (kq ≤ kj12) ∧ Aside0 (Kd.R (Kd.int .u8) 5 w' w.heap.size (fun _ => True) u151000 x151000_4) ∧ Aside0 (w'.heap[gb144]? = some (.cells #[.int .i64 a0_0, .int .i64 a0_1, .int .i64 a0_2, (.slice A0_3 l0_3.length c0_3)] 26 (0, 0))) ∧ Aside0 (IsS61 w w' g150 u151000 x151001_4) ∧ Aside0 (Below w.heap.size w w'))
                  case atStart => exact ⟨(0), (x151000_12), (x151001_12), (u151000), (by first | rfl | (simp; done) | (simp [*]; done)), H', ⟨Nat.le_refl _⟩, ⟨by (with_reducible repeat (first | apply Kd.R_alloc | apply Kd.R_drewN | apply Kd.R_drew)); exact HO_151000.out⟩, ⟨by (with_reducible repeat (first | refine blk_drewN ?_ _ | refine blk_drew ?_ | refine blk_alloc ?_ _)); exact BK144.out⟩, ⟨by repeat (first | (with_reducible first | exact HI150.out | apply IsS61.alloc | apply IsS61.drewN | apply IsS61.drew | apply IsS61.set_0 | apply IsS61.set_1 | refine IsS61.far ?_ NB150_144.out _) | exact HI150.out)⟩, ⟨by repeat (first | (with_reducible first | exact HB.out | apply below_alloc | apply pw_below_drewN | apply below_drew1 | refine below_set ?_ (IsS61.ge HI150.out) | refine below_set ?_ GE144.out) | exact HB.out)⟩⟩
                  case round =>
                    clear H'
                    try clear c1
                    try clear c2
                    try clear p2
                    try clear c3
                    try clear p6
                    try clear c7
                    try clear c8
                    try clear c8b0
                    try clear c8b1
                    try clear c10
                    try clear c11
                    try clear c12
                    try clear c15
                    try clear c15b0
                    try clear c19
                    try clear c19b0
                    try clear c19b1
                    try clear c21
                    try clear c21b0
                    try clear c21b1
                    try clear c24
                    try clear c28
                    try clear c28b0
                    try clear c28b1
                    try clear c30
                    try clear c30b0
                    try clear c30b1
                    try clear c32
                    try clear c32b0
                    try clear c32b1
                    try clear c33
                    try clear c33b0
                    try clear c33b1
                    try clear c38
                    try clear p2
                    try clear p6
                    obtain ⟨x9_4, x151000_4, x151001_4, u151000, rfl, HA, HK4, HO_151000, BK144, HI150, HB⟩ := hrel
                    cases gk with
                    | zero => exact absurd HA.out (by simp [gangwaylaw9_MemGrows.l1])
                    | succ k4 =>
                      have H := HA.out
                      clear HA
                      simp only [gangwaylaw9_MemGrows.l1] at H
                      have HC40 := Aside0.mk H
                      clear H
                      go_upto_if 86 with (fail)
                      go_cut [] (fun wc => ∃ (kq : Nat), Aside0 (gangwaylaw9_MemGrows.j9 kq x9_4 a0_0 a0_1 a0_2 l0_3 x151000_4 x151001_4 = some r) ∧ Aside0 (kq ≤ k4) ∧ Aside0 (Kd.R (Kd.int .u8) 5 wc w.heap.size (fun _ => True) u151000 x151000_4) ∧ Aside0 (wc.heap[gb144]? = some (.cells #[.int .i64 a0_0, .int .i64 a0_1, .int .i64 a0_2, (.slice A0_3 l0_3.length c0_3)] 26 (0, 0))) ∧ Aside0 (IsS61 w wc g150 u151000 x151001_4) ∧ Aside0 (Below w.heap.size w wc))
                      case first =>
                        have H := HC40.out
                        clear HC40
                        by_cases c41 : x9_4 < 3
                        · rw [if_pos c41] at H
                          have c41b0 : decide (x9_4 < 3) = true := decide_eq_true c41
                          clear c41
                          (first | rw [c41b0] | (simp only [i64_w, i32_w]; rw [c41b0]) | skip)
                          have H' := Aside0.mk H
                          clear H
                          go_wp2
                          go_meet
                          case rel => exact ⟨_, H', ⟨by have := HJ3.out; have := HJ10.out; have := HJ12.out; have := HK4.out; first | omega | exact Nat.le_refl _⟩, ⟨by (with_reducible repeat (first | apply Kd.R_alloc | apply Kd.R_drewN | apply Kd.R_drew)); exact HO_151000.out⟩, ⟨by (with_reducible repeat (first | refine blk_drewN ?_ _ | refine blk_drew ?_ | refine blk_alloc ?_ _)); exact BK144.out⟩, ⟨by repeat (first | (with_reducible first | exact HI150.out | apply IsS61.alloc | apply IsS61.drewN | apply IsS61.drew | apply IsS61.set_0 | apply IsS61.set_1 | refine IsS61.far ?_ NB150_144.out _) | exact HI150.out)⟩, ⟨by repeat (first | (with_reducible first | exact HB.out | apply below_alloc | apply pw_below_drewN | apply below_drew1 | refine below_set ?_ (IsS61.ge HI150.out) | refine below_set ?_ GE144.out) | exact HB.out)⟩⟩
                        · rw [if_neg c41] at H
                          have c41b0 : decide (x9_4 < 3) = false := decide_eq_false c41
                          clear c41
                          (first | rw [c41b0] | (simp only [i64_w, i32_w]; rw [c41b0]) | skip)
                          have H' := Aside0.mk H
                          clear H
                          go_wp2
                          go_meet
                          case rel => exact ⟨_, (x151000_4), (x151001_4), (u151000), H', ⟨by have := HJ3.out; have := HJ10.out; have := HJ12.out; have := HK4.out; first | omega | exact Nat.le_refl _⟩, ⟨by (with_reducible repeat (first | apply Kd.R_alloc | apply Kd.R_drewN | apply Kd.R_drew)); exact HO_151000.out⟩, ⟨by (with_reducible repeat (first | refine blk_drewN ?_ _ | refine blk_drew ?_ | refine blk_alloc ?_ _)); exact BK144.out⟩, ⟨by repeat (first | (with_reducible first | exact HI150.out | apply IsS61.alloc | apply IsS61.drewN | apply IsS61.drew | apply IsS61.set_0 | apply IsS61.set_1 | refine IsS61.far ?_ NB150_144.out _) | exact HI150.out)⟩, ⟨by repeat (first | (with_reducible first | exact HB.out | apply below_alloc | apply pw_below_drewN | apply below_drew1 | refine below_set ?_ (IsS61.ge HI150.out) | refine below_set ?_ GE144.out) | exact HB.out)⟩⟩
                      case rest =>
                        clear HC40
                        try clear c1
                        try clear c2
                        try clear p2
                        try clear c3
                        try clear c4
                        try clear p6
                        try clear c7
                        try clear c8
                        try clear c8b0
                        try clear c8b1
                        try clear c10
                        try clear c11
                        try clear c12
                        try clear c15
                        try clear c15b0
                        try clear c19
                        try clear c19b0
                        try clear c19b1
                        try clear c21
                        try clear c21b0
                        try clear c21b1
                        try clear c24
                        try clear c28
                        try clear c28b0
                        try clear c28b1
                        try clear c30
                        try clear c30b0
                        try clear c30b1
                        try clear c32
                        try clear c32b0
                        try clear c32b1
                        try clear c33
                        try clear c33b0
                        try clear c33b1
                        try clear c38
                        try clear c41
                        try clear c41b0
                        try clear p2
                        try clear p6
                        obtain ⟨kq, HA, HJ39, HO_151000, BK144, HI150, HB⟩ := hcut
                        cases kq with
                        | zero => exact absurd HA.out (by simp [gangwaylaw9_MemGrows.j9])
                        | succ kj39 =>
                          have H := HA.out
                          clear HA
                          simp only [gangwaylaw9_MemGrows.j9] at H
                          replace H := Option.bind_eq_some_iff.mp H
                          obtain ⟨⟨t186, t187, t188, t191⟩, A420, H⟩ := H
                          replace H : ((gangwaylaw9_num.f t187).bind fun t192 => (if t192 = 0 then (gangwaylaw9_MemGrows.j10 kj39 x9_4 (t186 != (IntKind.u64.wrap (wrap64 (x9_4 + 1)))) a0_0 a0_1 a0_2 l0_3 t188 t191) else (none))) = some r := H
                          have A42 := Aside0.mk A420
                          clear A420
                          have HC43 := Aside0.mk H
                          clear H
                          go_upto_region 18 with (first | ((with_reducible refine gate_callee (f := 11) rfl ?_); refine goesL_ (some 94) rfl rfl Try.func11 (by kernel_rfl) rfl #[.pointer (some ⟨g150, 0, none⟩), .int .i64 (wrap64 ((wrap64 (x9_4 * 65536)) + 5)), .int .i64 0, .int .i64 4] rfl (by (try simp only [List.map_toArray, List.map_cons, List.map_nil]); first | done | rfl | (simp only [List.length_drop, List.length_take]; rfl)) ?_; (with_reducible refine (mem_Memory_Load.calls kj39 g150 (fun k_ => some k_ = (u151000 : Value).ownBlock) u151000 x151000_4 x151001_4 (wrap64 ((wrap64 (x9_4 * 65536)) + 5)) 0 4 t186 t187 t188 t191 w _ ?side1 ?side2 ?side3 A42.out).mono ?_); (case side1 => repeat (first | (with_reducible first | exact HI150.out | apply IsS61.alloc | apply IsS61.drewN | apply IsS61.drew | apply IsS61.set_0 | apply IsS61.set_1 | refine IsS61.far ?_ NB150_144.out _) | exact HI150.out)); (case side2 => repeat (first | (with_reducible first | exact HB.out | apply below_alloc | apply pw_below_drewN | apply below_drew1 | refine below_set ?_ (IsS61.ge HI150.out) | refine below_set ?_ GE144.out) | exact HB.out)); (case side3 => exact Kd.R_tight rfl HO_151000.out); rintro e w44 ⟨v189, rfl, ho0, hi, hb, hkp⟩; refine ⟨_, rfl, ?_⟩; have n0_ := Aside0.mk (blk_kept (by (with_reducible repeat (first | refine blk_drewN ?_ _ | refine blk_drew ?_ | refine blk_alloc ?_ _)); exact BK144.out) hkp (fun hs_ => Or.elim hs_ (fun hs_ => (fun e_ => (Kd.R_ne HO_151000.out BK144.out (by decide)) e_) hs_) (fun e_ => NB144_150.out e_))); have n1_ := Aside0.mk (hi); have n2_ := Aside0.mk (Kd.R_mono (ok' := fun k_ => True) ho0 (fun k_ hk_ => trivial)); have n3_ := Aside0.mk (hb); clear BK144; clear HI150; clear HB; clear HO_151000; have BK144 := n0_; have HI150 := n1_; have HO190 := n2_; have HB := n3_; clear n0_ n1_ n2_ n3_; (try clear hb); (try clear hkp); (try clear ho0)))
                          (try simp only [Act.put, List.setIfInBounds_toArray, List.set_cons_zero, List.set_cons_succ])
                          go_cut [106] (fun v106 wc => ∃ (kq : Nat) (x106_42 : Bool), v106 = .bool x106_42 ∧ Aside0 (gangwaylaw9_MemGrows.j10 kq x9_4 x106_42 a0_0 a0_1 a0_2 l0_3 t188 t191 = some r) ∧ Aside0 (kq ≤ kj39) ∧ Aside0 (Kd.R (Kd.int .u8) 5 wc w.heap.size (fun _ => True) v189 t188) ∧ Aside0 (wc.heap[gb144]? = some (.cells #[.int .i64 a0_0, .int .i64 a0_1, .int .i64 a0_2, (.slice A0_3 l0_3.length c0_3)] 26 (0, 0))) ∧ Aside0 (IsS61 w wc g150 v189 t191) ∧ Aside0 (Below w.heap.size w wc))
                          case first =>
                            have H := HC43.out
                            clear HC43
                            replace H := Option.bind_eq_some_iff.mp H
                            obtain ⟨t192, A450, H⟩ := H
                            replace H : (if t192 = 0 then (gangwaylaw9_MemGrows.j10 kj39 x9_4 (t186 != (IntKind.u64.wrap (wrap64 (x9_4 + 1)))) a0_0 a0_1 a0_2 l0_3 t188 t191) else (none)) = some r := H
                            have A45 := Aside0.mk A450
                            clear A450
                            by_cases c46 : t192 = 0
                            · rw [if_pos c46] at H
                              have c46b0 : (t192 == 0) = true := beq_iff_eq.mpr c46
                              have c46b1 : (t192 != 0) = false := bne_eq_false_iff_eq.mpr c46
                              clear c46
                              (first | rw [c46b0] | (simp only [i64_w, i32_w]; rw [c46b0]) | skip)
                              have H' := Aside0.mk H
                              clear H
                              go_wp2_with (first | ((with_reducible refine gate_callee (f := 8) rfl ?_); refine goesL_ (some 98) rfl rfl Try.func8 (by kernel_rfl) rfl #[.int .i64 t187] rfl (by (try simp only [List.map_toArray, List.map_cons, List.map_nil]); first | done | rfl | (simp only [List.length_drop, List.length_take]; rfl)) ?_; (with_reducible refine (gangwaylaw9_num.calls t187 t192 _ A45.out).mono ?_); rintro e w' ⟨rfl, ⟨nd, rfl⟩⟩; refine ⟨_, rfl, ?_⟩))
                              go_meet
                              case rel => exact ⟨_, ((t186 != (IntKind.u64.wrap (wrap64 (x9_4 + 1))))), (by first | rfl | (simp; done) | (simp [*]; done)), H', ⟨by have := HJ3.out; have := HJ10.out; have := HJ12.out; have := HK4.out; have := HJ39.out; first | omega | exact Nat.le_refl _⟩, ⟨by (with_reducible repeat (first | apply Kd.R_alloc | apply Kd.R_drewN | apply Kd.R_drew)); exact HO190.out⟩, ⟨by (with_reducible repeat (first | refine blk_drewN ?_ _ | refine blk_drew ?_ | refine blk_alloc ?_ _)); exact BK144.out⟩, ⟨by repeat (first | (with_reducible first | exact HI150.out | apply IsS61.alloc | apply IsS61.drewN | apply IsS61.drew | apply IsS61.set_0 | apply IsS61.set_1 | refine IsS61.far ?_ NB150_144.out _) | exact HI150.out)⟩, ⟨by repeat (first | (with_reducible first | exact HB.out | apply below_alloc | apply pw_below_drewN | apply below_drew1 | refine below_set ?_ (IsS61.ge HI150.out) | refine below_set ?_ GE144.out) | exact HB.out)⟩⟩
                            · rw [if_neg c46] at H
                              exact absurd H (by simp)
                          case rest =>
                            clear HC43
                            try clear c1
                            try clear c2
                            try clear p2
                            try clear c3
                            try clear c4
                            try clear p6
                            try clear c7
                            try clear c8
                            try clear c8b0
                            try clear c8b1
                            try clear c10
                            try clear c11
                            try clear c12
                            try clear c15
                            try clear c15b0
                            try clear c19
                            try clear c19b0
                            try clear c19b1
                            try clear c21
                            try clear c21b0
                            try clear c21b1
                            try clear c24
                            try clear c28
                            try clear c28b0
                            try clear c28b1
                            try clear c30
                            try clear c30b0
                            try clear c30b1
                            try clear c32
                            try clear c32b0
                            try clear c32b1
                            try clear c33
                            try clear c33b0
                            try clear c33b1
                            try clear c38
                            try clear c41
                            try clear c41b0
                            try clear c46
                            try clear c46b0
                            try clear c46b1
                            try clear p2
                            try clear p6
                            obtain ⟨kq, x106_42, rfl, HA, HJ42, HO_151000, BK144, HI150, HB⟩ := hcut
                            cases kq with
                            | zero => exact absurd HA.out (by simp [gangwaylaw9_MemGrows.j10])
                            | succ kj42 =>
                              have H := HA.out
                              clear HA
                              simp only [gangwaylaw9_MemGrows.j10] at H
                              by_cases c47 : x106_42 = true
                              · subst c47
                                have H1 : (none) = some r := by rw [if_pos rfl] at H; exact H
                                clear H
                                have H := H1
                                clear H1
                                exact absurd H (by simp)
                              · replace c47 := Bool.eq_false_iff.mpr c47
                                subst c47
                                have H1 : (gangwaylaw9_MemGrows.l1 kj42 (wrap64 (x9_4 + 1)) a0_0 a0_1 a0_2 l0_3 t188 t191) = some r := by rw [if_neg (show ¬ (false = true) by decide)] at H; exact H
                                clear H
                                have H := H1
                                clear H1
                                have H' := Aside0.mk H
                                clear H
                                go_wp2
                                go_roundg kj42
                                case measure => have := HJ3.out; have := HJ10.out; have := HJ12.out; have := HK4.out; have := HJ39.out; have := HJ42.out; omega
                                case rel => exact ⟨(wrap64 (x9_4 + 1)), (t188), (t191), (v189), (by first | rfl | (simp; done) | (simp [*]; done)), H', ⟨by have := HJ3.out; have := HJ10.out; have := HJ12.out; have := HK4.out; have := HJ39.out; have := HJ42.out; omega⟩, ⟨by (with_reducible repeat (first | apply Kd.R_alloc | apply Kd.R_drewN | apply Kd.R_drew)); exact HO_151000.out⟩, ⟨by (with_reducible repeat (first | refine blk_drewN ?_ _ | refine blk_drew ?_ | refine blk_alloc ?_ _)); exact BK144.out⟩, ⟨by repeat (first | (with_reducible first | exact HI150.out | apply IsS61.alloc | apply IsS61.drewN | apply IsS61.drew | apply IsS61.set_0 | apply IsS61.set_1 | refine IsS61.far ?_ NB150_144.out _) | exact HI150.out)⟩, ⟨by repeat (first | (with_reducible first | exact HB.out | apply below_alloc | apply pw_below_drewN | apply below_drew1 | refine below_set ?_ (IsS61.ge HI150.out) | refine below_set ?_ GE144.out) | exact HB.out)⟩⟩
                case rest =>
                  clear HC39
                  try clear c1
                  try clear c2
                  try clear p2
                  try clear c3
                  try clear c4
                  try clear p6
                  try clear c7
                  try clear c8
                  try clear c8b0
                  try clear c8b1
                  try clear c10
                  try clear c11
                  try clear c12
                  try clear c15
                  try clear c15b0
                  try clear c19
                  try clear c19b0
                  try clear c19b1
                  try clear c21
                  try clear c21b0
                  try clear c21b1
                  try clear c24
                  try clear c28
                  try clear c28b0
                  try clear c28b1
                  try clear c30
                  try clear c30b0
                  try clear c30b1
                  try clear c32
                  try clear c32b0
                  try clear c32b1
                  try clear c33
                  try clear c33b0
                  try clear c33b1
                  try clear c38
                  try clear c41
                  try clear c41b0
                  try clear c46
                  try clear c46b0
                  try clear c46b1
                  try clear c47
                  try clear p2
                  try clear p6
                  obtain ⟨kq, x151000_38, x151001_38, u151000, HA, HJ38, HO_151000, BK144, HI150, HB⟩ := hcut
                  cases kq with
                  | zero => exact absurd HA.out (by simp [gangwaylaw9_MemGrows.j11])
                  | succ kj38 =>
                    have H := HA.out
                    clear HA
                    simp only [gangwaylaw9_MemGrows.j11] at H
                    replace H := Option.bind_eq_some_iff.mp H
                    obtain ⟨⟨t193, t194, t197, t199⟩, A480, H⟩ := H
                    replace H : (if t193 = true then (none) else ((mem_New.f kj38 2 (-1) 1).bind fun bt239 => (if bt239.1 = true then (none) else ((mem_Memory_Grow.f x151000_38 x151001_38 (-1)).bind fun bt263 => (if bt263.1 = (-1) then ((mem_Memory_Grow.f bt263.2.1 bt263.2.2 1099511627776).bind fun bt268 => (if bt268.1 = (-1) then ((mem_Memory_Grow.f bt268.2.1 bt268.2.2 0).bind fun bt273 => (if bt273.1 = 3 then ((gangwaylaw9_num.f t199).bind fun t278 => (if t278 = 100 then ((gangwaylaw9_num.f bt239.2.2.2).bind fun t279 => (if t279 = 51 then (if (l0_3.length : Int) ≥ 0 then ((gangwaylaw9_wakes.f kj38).bind fun t280 => (some t280)) else (none)) else (none))) else (none))) else (none))) else (none))) else (none)))))) = some r := H
                    have A48 := Aside0.mk A480
                    clear A480
                    by_cases c49 : t193 = true
                    · subst c49
                      have H1 : (none) = some r := by rw [if_pos rfl] at H; exact H
                      clear H
                      have H := H1
                      clear H1
                      exact absurd H (by simp)
                    · replace c49 := Bool.eq_false_iff.mpr c49
                      subst c49
                      have H1 : ((mem_New.f kj38 2 (-1) 1).bind fun bt239 => (if bt239.1 = true then (none) else ((mem_Memory_Grow.f x151000_38 x151001_38 (-1)).bind fun bt263 => (if bt263.1 = (-1) then ((mem_Memory_Grow.f bt263.2.1 bt263.2.2 1099511627776).bind fun bt268 => (if bt268.1 = (-1) then ((mem_Memory_Grow.f bt268.2.1 bt268.2.2 0).bind fun bt273 => (if bt273.1 = 3 then ((gangwaylaw9_num.f t199).bind fun t278 => (if t278 = 100 then ((gangwaylaw9_num.f bt239.2.2.2).bind fun t279 => (if t279 = 51 then (if (l0_3.length : Int) ≥ 0 then ((gangwaylaw9_wakes.f kj38).bind fun t280 => (some t280)) else (none)) else (none))) else (none))) else (none))) else (none))) else (none))))) = some r := by rw [if_neg (show ¬ (false = true) by decide)] at H; exact H
                      clear H
                      have H := H1
                      clear H1
                      replace H := Option.bind_eq_some_iff.mp H
                      obtain ⟨⟨t239, t240, t243, t245⟩, A500, H⟩ := H
                      replace H : (if t239 = true then (none) else ((mem_Memory_Grow.f x151000_38 x151001_38 (-1)).bind fun bt263 => (if bt263.1 = (-1) then ((mem_Memory_Grow.f bt263.2.1 bt263.2.2 1099511627776).bind fun bt268 => (if bt268.1 = (-1) then ((mem_Memory_Grow.f bt268.2.1 bt268.2.2 0).bind fun bt273 => (if bt273.1 = 3 then ((gangwaylaw9_num.f t199).bind fun t278 => (if t278 = 100 then ((gangwaylaw9_num.f t245).bind fun t279 => (if t279 = 51 then (if (l0_3.length : Int) ≥ 0 then ((gangwaylaw9_wakes.f kj38).bind fun t280 => (some t280)) else (none)) else (none))) else (none))) else (none))) else (none))) else (none)))) = some r := H
                      have A50 := Aside0.mk A500
                      clear A500
                      by_cases c51 : t239 = true
                      · subst c51
                        have H1 : (none) = some r := by rw [if_pos rfl] at H; exact H
                        clear H
                        have H := H1
                        clear H1
                        exact absurd H (by simp)
                      · replace c51 := Bool.eq_false_iff.mpr c51
                        subst c51
                        have H1 : ((mem_Memory_Grow.f x151000_38 x151001_38 (-1)).bind fun bt263 => (if bt263.1 = (-1) then ((mem_Memory_Grow.f bt263.2.1 bt263.2.2 1099511627776).bind fun bt268 => (if bt268.1 = (-1) then ((mem_Memory_Grow.f bt268.2.1 bt268.2.2 0).bind fun bt273 => (if bt273.1 = 3 then ((gangwaylaw9_num.f t199).bind fun t278 => (if t278 = 100 then ((gangwaylaw9_num.f t245).bind fun t279 => (if t279 = 51 then (if (l0_3.length : Int) ≥ 0 then ((gangwaylaw9_wakes.f kj38).bind fun t280 => (some t280)) else (none)) else (none))) else (none))) else (none))) else (none))) else (none))) = some r := by rw [if_neg (show ¬ (false = true) by decide)] at H; exact H
                        clear H
                        have H := H1
                        clear H1
                        replace H := Option.bind_eq_some_iff.mp H
                        obtain ⟨⟨t263, t264, t267⟩, A520, H⟩ := H
                        replace H : (if t263 = (-1) then ((mem_Memory_Grow.f t264 t267 1099511627776).bind fun bt268 => (if bt268.1 = (-1) then ((mem_Memory_Grow.f bt268.2.1 bt268.2.2 0).bind fun bt273 => (if bt273.1 = 3 then ((gangwaylaw9_num.f t199).bind fun t278 => (if t278 = 100 then ((gangwaylaw9_num.f t245).bind fun t279 => (if t279 = 51 then (if (l0_3.length : Int) ≥ 0 then ((gangwaylaw9_wakes.f kj38).bind fun t280 => (some t280)) else (none)) else (none))) else (none))) else (none))) else (none))) else (none)) = some r := H
                        have A52 := Aside0.mk A520
                        clear A520
                        by_cases c53 : t263 = (-1)
                        · rw [if_pos c53] at H
                          have c53b0 : (t263 == (-1)) = true := beq_iff_eq.mpr c53
                          have c53b1 : (t263 != (-1)) = false := bne_eq_false_iff_eq.mpr c53
                          clear c53
                          replace H := Option.bind_eq_some_iff.mp H
                          obtain ⟨⟨t268, t269, t272⟩, A540, H⟩ := H
                          replace H : (if t268 = (-1) then ((mem_Memory_Grow.f t269 t272 0).bind fun bt273 => (if bt273.1 = 3 then ((gangwaylaw9_num.f t199).bind fun t278 => (if t278 = 100 then ((gangwaylaw9_num.f t245).bind fun t279 => (if t279 = 51 then (if (l0_3.length : Int) ≥ 0 then ((gangwaylaw9_wakes.f kj38).bind fun t280 => (some t280)) else (none)) else (none))) else (none))) else (none))) else (none)) = some r := H
                          have A54 := Aside0.mk A540
                          clear A540
                          by_cases c55 : t268 = (-1)
                          · rw [if_pos c55] at H
                            have c55b0 : (t268 == (-1)) = true := beq_iff_eq.mpr c55
                            have c55b1 : (t268 != (-1)) = false := bne_eq_false_iff_eq.mpr c55
                            clear c55
                            replace H := Option.bind_eq_some_iff.mp H
                            obtain ⟨⟨t273, t274, t277⟩, A560, H⟩ := H
                            replace H : (if t273 = 3 then ((gangwaylaw9_num.f t199).bind fun t278 => (if t278 = 100 then ((gangwaylaw9_num.f t245).bind fun t279 => (if t279 = 51 then (if (l0_3.length : Int) ≥ 0 then ((gangwaylaw9_wakes.f kj38).bind fun t280 => (some t280)) else (none)) else (none))) else (none))) else (none)) = some r := H
                            have A56 := Aside0.mk A560
                            clear A560
                            by_cases c57 : t273 = 3
                            · rw [if_pos c57] at H
                              have c57b0 : (t273 == 3) = true := beq_iff_eq.mpr c57
                              have c57b1 : (t273 != 3) = false := bne_eq_false_iff_eq.mpr c57
                              clear c57
                              replace H := Option.bind_eq_some_iff.mp H
                              obtain ⟨t278, A580, H⟩ := H
                              replace H : (if t278 = 100 then ((gangwaylaw9_num.f t245).bind fun t279 => (if t279 = 51 then (if (l0_3.length : Int) ≥ 0 then ((gangwaylaw9_wakes.f kj38).bind fun t280 => (some t280)) else (none)) else (none))) else (none)) = some r := H
                              have A58 := Aside0.mk A580
                              clear A580
                              by_cases c59 : t278 = 100
                              · rw [if_pos c59] at H
                                have c59b0 : (t278 == 100) = true := beq_iff_eq.mpr c59
                                have c59b1 : (t278 != 100) = false := bne_eq_false_iff_eq.mpr c59
                                clear c59
                                replace H := Option.bind_eq_some_iff.mp H
                                obtain ⟨t279, A600, H⟩ := H
                                replace H : (if t279 = 51 then (if (l0_3.length : Int) ≥ 0 then ((gangwaylaw9_wakes.f kj38).bind fun t280 => (some t280)) else (none)) else (none)) = some r := H
                                have A60 := Aside0.mk A600
                                clear A600
                                by_cases c61 : t279 = 51
                                · rw [if_pos c61] at H
                                  have c61b0 : (t279 == 51) = true := beq_iff_eq.mpr c61
                                  have c61b1 : (t279 != 51) = false := bne_eq_false_iff_eq.mpr c61
                                  clear c61
                                  by_cases c62 : (l0_3.length : Int) ≥ 0
                                  · rw [if_pos c62] at H
                                    have c62b0 : decide (0 ≤ (l0_3.length : Int)) = true := decide_eq_true c62
                                    have c62b1 : decide (0 ≤ l0_3.length) = true := decide_eq_true (by omega)
                                    clear c62
                                    replace H := Option.bind_eq_some_iff.mp H
                                    obtain ⟨t280, A630, H⟩ := H
                                    replace H : (some t280) = some r := H
                                    have A63 := Aside0.mk A630
                                    clear A630
                                    obtain rfl := Option.some.inj H
                                    go_wp2_with (first | ((with_reducible refine gate_callee (f := 7) rfl ?_); refine goesL_ (some 109) rfl rfl Try.func7 (by kernel_rfl) rfl #[.agg #[.int .i64 2, .int .i64 1], .int .i64 4] rfl (by (try simp only [List.map_toArray, List.map_cons, List.map_nil]); first | done | rfl | (simp only [List.length_drop, List.length_take]; rfl)) ?_; (with_reducible refine (mem_New.calls kj38 2 1 4 false t194 t197 t199 _ A48.out).mono ?_); rintro e w64 ⟨v195, pz198, rfl, ho0, hz198, hb⟩; refine ⟨_, rfl, ?_⟩; have n0_ := Aside0.mk (Kd.R_elder' (by (with_reducible repeat (first | apply Kd.R_alloc | apply Kd.R_drewN | apply Kd.R_drew)); exact HO_151000.out) (Kd.R_base ho0) hb); have n1_ := Aside0.mk (Kd.R_lower (Kd.R_new' ho0 (Kd.R_lt (by (with_reducible repeat (first | apply Kd.R_alloc | apply Kd.R_drewN | apply Kd.R_drew)); exact HO_151000.out))) (below_size (by repeat (first | (with_reducible first | exact HB.out | apply below_alloc | apply pw_below_drewN | apply below_drew1 | refine below_set ?_ (IsS61.ge HI150.out) | refine below_set ?_ GE144.out) | exact HB.out)))); have n2_ := Aside0.mk (blk_below (g := gb144) (o := .cells #[.int .i64 a0_0, .int .i64 a0_1, .int .i64 a0_2, .slice A0_3 l0_3.length c0_3] 26 (0, 0)) (by (with_reducible repeat (first | refine blk_drewN ?_ _ | refine blk_drew ?_ | refine blk_alloc ?_ _)); exact BK144.out) hb); have n3_ := Aside0.mk (IsS61.below (by repeat (first | (with_reducible first | exact HI150.out | apply IsS61.alloc | apply IsS61.drewN | apply IsS61.drew | apply IsS61.set_0 | apply IsS61.set_1 | refine IsS61.far ?_ NB150_144.out _) | exact HI150.out)) hb); have n4_ := Aside0.mk ((show (false = true → ∃ g_ : Nat, pz198 = .pointer (some ⟨g_, 0, none⟩) ∧ IsS61 w w64 g_ v195 t197 ∧ g150 ≠ g_ ∧ gb144 ≠ g_) ∧ (false = false → pz198 = .pointer none) from ⟨fun h_ => (hz198.1 h_).elim fun g_ hg_ => ⟨g_, hg_.1, hg_.2.lower ((below_size (by repeat (first | (with_reducible first | exact HB.out | apply below_alloc | apply pw_below_drewN | apply below_drew1 | refine below_set ?_ (IsS61.ge HI150.out) | refine below_set ?_ GE144.out) | exact HB.out)))), Nat.ne_of_lt (Nat.lt_of_lt_of_le (IsS61.lt (show IsS61 w _ g150 u151000 x151001_38 from by repeat (first | (with_reducible first | exact HI150.out | apply IsS61.alloc | apply IsS61.drewN | apply IsS61.drew | apply IsS61.set_0 | apply IsS61.set_1 | refine IsS61.far ?_ NB150_144.out _) | exact HI150.out))) hg_.2.ge), Nat.ne_of_lt (Nat.lt_of_lt_of_le (blk_lt (g := gb144) (o := .cells #[.int .i64 a0_0, .int .i64 a0_1, .int .i64 a0_2, .slice A0_3 l0_3.length c0_3] 26 (0, 0)) (by (with_reducible repeat (first | refine blk_drewN ?_ _ | refine blk_drew ?_ | refine blk_alloc ?_ _)); exact BK144.out)) hg_.2.ge)⟩, hz198.2⟩)); have n5_ := Aside0.mk (below_step (by repeat (first | (with_reducible first | exact HB.out | apply below_alloc | apply pw_below_drewN | apply below_drew1 | refine below_set ?_ (IsS61.ge HI150.out) | refine below_set ?_ GE144.out) | exact HB.out)) hb); clear HO_151000; clear BK144; clear HI150; clear HB; have HO_151000 := n0_; have HO196 := n1_; have BK144 := n2_; have HI150 := n3_; have HZ198 := n4_; have HB := n5_; clear n0_ n1_ n2_ n3_ n4_ n5_; (try clear hb); (try clear hb2); (try clear hk); (try clear hi); (try clear ho0); have e_ := HZ198.out.2 rfl; subst e_; clear HZ198) | ((with_reducible refine gate_callee (f := 7) rfl ?_); refine goesL_ (some 114) rfl rfl Try.func7 (by kernel_rfl) rfl #[.agg #[.int .i64 2, .int .i64 (-1)], .int .i64 1] rfl (by (try simp only [List.map_toArray, List.map_cons, List.map_nil]); first | done | rfl | (simp only [List.length_drop, List.length_take]; rfl)) ?_; (with_reducible refine (mem_New.calls kj38 2 (-1) 1 false t240 t243 t245 _ A50.out).mono ?_); rintro e w65 ⟨v241, pz244, rfl, ho0, hz244, hb⟩; refine ⟨_, rfl, ?_⟩; have n0_ := Aside0.mk (Kd.R_elder' (by (with_reducible repeat (first | apply Kd.R_alloc | apply Kd.R_drewN | apply Kd.R_drew)); exact HO_151000.out) (Kd.R_base ho0) hb); have n1_ := Aside0.mk (Kd.R_elder' (by (with_reducible repeat (first | apply Kd.R_alloc | apply Kd.R_drewN | apply Kd.R_drew)); exact HO196.out) (Kd.R_base ho0) hb); have n2_ := Aside0.mk (Kd.R_lower (Kd.R_new' (Kd.R_new' ho0 (Kd.R_lt (by (with_reducible repeat (first | apply Kd.R_alloc | apply Kd.R_drewN | apply Kd.R_drew)); exact HO_151000.out))) (Kd.R_lt (by (with_reducible repeat (first | apply Kd.R_alloc | apply Kd.R_drewN | apply Kd.R_drew)); exact HO196.out))) (below_size (by repeat (first | (with_reducible first | exact HB.out | apply below_alloc | apply pw_below_drewN | apply below_drew1 | refine below_set ?_ (IsS61.ge HI150.out) | refine below_set ?_ GE144.out) | exact HB.out)))); have n3_ := Aside0.mk (blk_below (g := gb144) (o := .cells #[.int .i64 a0_0, .int .i64 a0_1, .int .i64 a0_2, .slice A0_3 l0_3.length c0_3] 26 (0, 0)) (by (with_reducible repeat (first | refine blk_drewN ?_ _ | refine blk_drew ?_ | refine blk_alloc ?_ _)); exact BK144.out) hb); have n4_ := Aside0.mk (IsS61.below (by repeat (first | (with_reducible first | exact HI150.out | apply IsS61.alloc | apply IsS61.drewN | apply IsS61.drew | apply IsS61.set_0 | apply IsS61.set_1 | refine IsS61.far ?_ NB150_144.out _) | exact HI150.out)) hb); have n5_ := Aside0.mk ((show (false = true → ∃ g_ : Nat, pz244 = .pointer (some ⟨g_, 0, none⟩) ∧ IsS61 w w65 g_ v241 t243 ∧ g150 ≠ g_ ∧ gb144 ≠ g_) ∧ (false = false → pz244 = .pointer none) from ⟨fun h_ => (hz244.1 h_).elim fun g_ hg_ => ⟨g_, hg_.1, hg_.2.lower ((below_size (by repeat (first | (with_reducible first | exact HB.out | apply below_alloc | apply pw_below_drewN | apply below_drew1 | refine below_set ?_ (IsS61.ge HI150.out) | refine below_set ?_ GE144.out) | exact HB.out)))), Nat.ne_of_lt (Nat.lt_of_lt_of_le (IsS61.lt (show IsS61 w _ g150 u151000 x151001_38 from by repeat (first | (with_reducible first | exact HI150.out | apply IsS61.alloc | apply IsS61.drewN | apply IsS61.drew | apply IsS61.set_0 | apply IsS61.set_1 | refine IsS61.far ?_ NB150_144.out _) | exact HI150.out))) hg_.2.ge), Nat.ne_of_lt (Nat.lt_of_lt_of_le (blk_lt (g := gb144) (o := .cells #[.int .i64 a0_0, .int .i64 a0_1, .int .i64 a0_2, .slice A0_3 l0_3.length c0_3] 26 (0, 0)) (by (with_reducible repeat (first | refine blk_drewN ?_ _ | refine blk_drew ?_ | refine blk_alloc ?_ _)); exact BK144.out)) hg_.2.ge)⟩, hz244.2⟩)); have n6_ := Aside0.mk (below_step (by repeat (first | (with_reducible first | exact HB.out | apply below_alloc | apply pw_below_drewN | apply below_drew1 | refine below_set ?_ (IsS61.ge HI150.out) | refine below_set ?_ GE144.out) | exact HB.out)) hb); clear HO_151000; clear HO196; clear BK144; clear HI150; clear HB; have HO_151000 := n0_; have HO196 := n1_; have HO242 := n2_; have BK144 := n3_; have HI150 := n4_; have HZ244 := n5_; have HB := n6_; clear n0_ n1_ n2_ n3_ n4_ n5_ n6_; (try clear hb); (try clear hb2); (try clear hk); (try clear hi); (try clear ho0); have e_ := HZ244.out.2 rfl; subst e_; clear HZ244) | ((with_reducible refine gate_callee (f := 10) rfl ?_); refine goesL_ (some 118) rfl rfl Try.func10 (by kernel_rfl) rfl #[.pointer (some ⟨g150, 0, none⟩), .int .i64 (-1)] rfl (by (try simp only [List.map_toArray, List.map_cons, List.map_nil]); first | done | rfl | (simp only [List.length_drop, List.length_take]; rfl)) ?_; (with_reducible refine (mem_Memory_Grow.calls g150 (fun k_ => some k_ = (u151000 : Value).ownBlock) u151000 x151000_38 x151001_38 (-1) t263 t264 t267 w _ ?side1 ?side2 ?side3 A52.out).mono ?_); (case side1 => repeat (first | (with_reducible first | exact HI150.out | apply IsS61.alloc | apply IsS61.drewN | apply IsS61.drew | apply IsS61.set_0 | apply IsS61.set_1 | refine IsS61.far ?_ NB150_144.out _) | exact HI150.out)); (case side2 => repeat (first | (with_reducible first | exact HB.out | apply below_alloc | apply pw_below_drewN | apply below_drew1 | refine below_set ?_ (IsS61.ge HI150.out) | refine below_set ?_ GE144.out) | exact HB.out)); (case side3 => exact Kd.R_tight rfl HO_151000.out); rintro e w66 ⟨v265, rfl, ho0, hi, hb, hkp⟩; refine ⟨_, rfl, ?_⟩; have n0_ := Aside0.mk (blk_kept (by (with_reducible repeat (first | refine blk_drewN ?_ _ | refine blk_drew ?_ | refine blk_alloc ?_ _)); exact BK144.out) hkp (fun hs_ => Or.elim hs_ (fun hs_ => (fun e_ => (Kd.R_ne HO_151000.out BK144.out (by decide)) e_) hs_) (fun e_ => NB144_150.out e_))); have n1_ := Aside0.mk (hi); have n2_ := Aside0.mk (Kd.R_mono (ok' := fun k_ => some k_ ≠ (v241 : Value).ownBlock ∧ some k_ ≠ (v265 : Value).ownBlock) (Kd.R_keptB ((IsS61.apart HI150.out HO196.out (by decide))) hkp (fun k_ hk_ hs_ => Or.elim hs_ (fun hs_ => (hk_.1.1.2) hs_) (fun e_ => (hk_.2) e_))) (fun k_ hk_ => ⟨hk_.1.1.2, fun e_ => Or.elim (ho0.1 k_ e_.symm) (fun hs_ => hk_.2.1 (.inl hs_)) (fun hn_ => Nat.not_le.2 hk_.2.2 hn_)⟩)); have n3_ := Aside0.mk (Kd.R_mono (ok' := fun k_ => some k_ ≠ (v195 : Value).ownBlock ∧ some k_ ≠ (v265 : Value).ownBlock) (Kd.R_keptB ((IsS61.apart HI150.out HO242.out (by decide))) hkp (fun k_ hk_ hs_ => Or.elim hs_ (fun hs_ => (hk_.1.1.2) hs_) (fun e_ => (hk_.2) e_))) (fun k_ hk_ => ⟨hk_.1.1.2, fun e_ => Or.elim (ho0.1 k_ e_.symm) (fun hs_ => hk_.2.1 (.inl hs_)) (fun hn_ => Nat.not_le.2 hk_.2.2 hn_)⟩)); have n4_ := Aside0.mk (Kd.R_mono (ok' := fun k_ => some k_ ≠ (v195 : Value).ownBlock ∧ some k_ ≠ (v241 : Value).ownBlock) ho0 (fun k_ hk_ => ⟨Or.elim hk_ (fun hs_ => fun e_ => ((((IsS61.apart HI150.out HO196.out (by decide))).1 k_ e_.symm).1.1.2) hs_) (fun hn_ => (Kd.fresh' (Kd.R_lt (by (with_reducible repeat (first | apply Kd.R_alloc | apply Kd.R_drewN | apply Kd.R_drew)); exact HO196.out)) k_ hn_)), Or.elim hk_ (fun hs_ => fun e_ => ((((IsS61.apart HI150.out HO242.out (by decide))).1 k_ e_.symm).1.1.2) hs_) (fun hn_ => (Kd.fresh' (Kd.R_lt (by (with_reducible repeat (first | apply Kd.R_alloc | apply Kd.R_drewN | apply Kd.R_drew)); exact HO242.out)) k_ hn_))⟩)); have n5_ := Aside0.mk (hb); clear BK144; clear HI150; clear HO196; clear HO242; clear HB; clear HO_151000; have BK144 := n0_; have HI150 := n1_; have HO196 := n2_; have HO242 := n3_; have HO266 := n4_; have HB := n5_; clear n0_ n1_ n2_ n3_ n4_ n5_; (try clear hb); (try clear hkp); (try clear ho0)) | (go_at_call 10; (with_reducible refine (mem_Memory_Grow.calls g150 (fun k_ => some k_ = (v265 : Value).ownBlock) v265 t264 t267 1099511627776 t268 t269 t272 w _ ?side1 ?side2 ?side3 A54.out).mono ?_); (case side1 => repeat (first | (with_reducible first | exact HI150.out | apply IsS61.alloc | apply IsS61.drewN | apply IsS61.drew | apply IsS61.set_0 | apply IsS61.set_1 | refine IsS61.far ?_ NB150_144.out _) | exact HI150.out)); (case side2 => repeat (first | (with_reducible first | exact HB.out | apply below_alloc | apply pw_below_drewN | apply below_drew1 | refine below_set ?_ (IsS61.ge HI150.out) | refine below_set ?_ GE144.out) | exact HB.out)); (case side3 => exact Kd.R_tight rfl HO266.out); rintro e w67 ⟨v270, rfl, ho0, hi, hb, hkp⟩; have n0_ := Aside0.mk (blk_kept (by (with_reducible repeat (first | refine blk_drewN ?_ _ | refine blk_drew ?_ | refine blk_alloc ?_ _)); exact BK144.out) hkp (fun hs_ => Or.elim hs_ (fun hs_ => (fun e_ => (Kd.R_ne HO266.out BK144.out (by decide)) e_) hs_) (fun e_ => NB144_150.out e_))); have n1_ := Aside0.mk (hi); have n2_ := Aside0.mk (Kd.R_mono (ok' := fun k_ => some k_ ≠ (v241 : Value).ownBlock ∧ some k_ ≠ (v270 : Value).ownBlock) (Kd.R_keptB ((IsS61.apart HI150.out HO196.out (by decide))) hkp (fun k_ hk_ hs_ => Or.elim hs_ (fun hs_ => (hk_.1.2) hs_) (fun e_ => (hk_.2) e_))) (fun k_ hk_ => ⟨hk_.1.1.1, fun e_ => Or.elim (ho0.1 k_ e_.symm) (fun hs_ => hk_.2.1 (.inl hs_)) (fun hn_ => Nat.not_le.2 hk_.2.2 hn_)⟩)); have n3_ := Aside0.mk (Kd.R_mono (ok' := fun k_ => some k_ ≠ (v195 : Value).ownBlock ∧ some k_ ≠ (v270 : Value).ownBlock) (Kd.R_keptB ((IsS61.apart HI150.out HO242.out (by decide))) hkp (fun k_ hk_ hs_ => Or.elim hs_ (fun hs_ => (hk_.1.2) hs_) (fun e_ => (hk_.2) e_))) (fun k_ hk_ => ⟨hk_.1.1.1, fun e_ => Or.elim (ho0.1 k_ e_.symm) (fun hs_ => hk_.2.1 (.inl hs_)) (fun hn_ => Nat.not_le.2 hk_.2.2 hn_)⟩)); have n4_ := Aside0.mk (Kd.R_mono (ok' := fun k_ => some k_ ≠ (v195 : Value).ownBlock ∧ some k_ ≠ (v241 : Value).ownBlock) ho0 (fun k_ hk_ => ⟨Or.elim hk_ (fun hs_ => fun e_ => ((((IsS61.apart HI150.out HO196.out (by decide))).1 k_ e_.symm).1.2) hs_) (fun hn_ => (Kd.fresh' (Kd.R_lt (by (with_reducible repeat (first | apply Kd.R_alloc | apply Kd.R_drewN | apply Kd.R_drew)); exact HO196.out)) k_ hn_)), Or.elim hk_ (fun hs_ => fun e_ => ((((IsS61.apart HI150.out HO242.out (by decide))).1 k_ e_.symm).1.2) hs_) (fun hn_ => (Kd.fresh' (Kd.R_lt (by (with_reducible repeat (first | apply Kd.R_alloc | apply Kd.R_drewN | apply Kd.R_drew)); exact HO242.out)) k_ hn_))⟩)); have n5_ := Aside0.mk (hb); clear BK144; clear HI150; clear HO196; clear HO242; clear HB; clear HO266; have BK144 := n0_; have HI150 := n1_; have HO196 := n2_; have HO242 := n3_; have HO271 := n4_; have HB := n5_; clear n0_ n1_ n2_ n3_ n4_ n5_; (try clear hb); (try clear hkp); (try clear ho0)) | (go_at_call 10; (with_reducible refine (mem_Memory_Grow.calls g150 (fun k_ => some k_ = (v270 : Value).ownBlock) v270 t269 t272 0 t273 t274 t277 w _ ?side1 ?side2 ?side3 A56.out).mono ?_); (case side1 => repeat (first | (with_reducible first | exact HI150.out | apply IsS61.alloc | apply IsS61.drewN | apply IsS61.drew | apply IsS61.set_0 | apply IsS61.set_1 | refine IsS61.far ?_ NB150_144.out _) | exact HI150.out)); (case side2 => repeat (first | (with_reducible first | exact HB.out | apply below_alloc | apply pw_below_drewN | apply below_drew1 | refine below_set ?_ (IsS61.ge HI150.out) | refine below_set ?_ GE144.out) | exact HB.out)); (case side3 => exact Kd.R_tight rfl HO271.out); rintro e w68 ⟨v275, rfl, ho0, hi, hb, hkp⟩; have n0_ := Aside0.mk (blk_kept (by (with_reducible repeat (first | refine blk_drewN ?_ _ | refine blk_drew ?_ | refine blk_alloc ?_ _)); exact BK144.out) hkp (fun hs_ => Or.elim hs_ (fun hs_ => (fun e_ => (Kd.R_ne HO271.out BK144.out (by decide)) e_) hs_) (fun e_ => NB144_150.out e_))); have n1_ := Aside0.mk (hi); have n2_ := Aside0.mk (Kd.R_mono (ok' := fun k_ => some k_ ≠ (v241 : Value).ownBlock ∧ some k_ ≠ (v275 : Value).ownBlock) (Kd.R_keptB ((IsS61.apart HI150.out HO196.out (by decide))) hkp (fun k_ hk_ hs_ => Or.elim hs_ (fun hs_ => (hk_.1.2) hs_) (fun e_ => (hk_.2) e_))) (fun k_ hk_ => ⟨hk_.1.1.1, fun e_ => Or.elim (ho0.1 k_ e_.symm) (fun hs_ => hk_.2.1 (.inl hs_)) (fun hn_ => Nat.not_le.2 hk_.2.2 hn_)⟩)); have n3_ := Aside0.mk (Kd.R_mono (ok' := fun k_ => some k_ ≠ (v195 : Value).ownBlock ∧ some k_ ≠ (v275 : Value).ownBlock) (Kd.R_keptB ((IsS61.apart HI150.out HO242.out (by decide))) hkp (fun k_ hk_ hs_ => Or.elim hs_ (fun hs_ => (hk_.1.2) hs_) (fun e_ => (hk_.2) e_))) (fun k_ hk_ => ⟨hk_.1.1.1, fun e_ => Or.elim (ho0.1 k_ e_.symm) (fun hs_ => hk_.2.1 (.inl hs_)) (fun hn_ => Nat.not_le.2 hk_.2.2 hn_)⟩)); have n4_ := Aside0.mk (Kd.R_mono (ok' := fun k_ => some k_ ≠ (v195 : Value).ownBlock ∧ some k_ ≠ (v241 : Value).ownBlock) ho0 (fun k_ hk_ => ⟨Or.elim hk_ (fun hs_ => fun e_ => ((((IsS61.apart HI150.out HO196.out (by decide))).1 k_ e_.symm).1.2) hs_) (fun hn_ => (Kd.fresh' (Kd.R_lt (by (with_reducible repeat (first | apply Kd.R_alloc | apply Kd.R_drewN | apply Kd.R_drew)); exact HO196.out)) k_ hn_)), Or.elim hk_ (fun hs_ => fun e_ => ((((IsS61.apart HI150.out HO242.out (by decide))).1 k_ e_.symm).1.2) hs_) (fun hn_ => (Kd.fresh' (Kd.R_lt (by (with_reducible repeat (first | apply Kd.R_alloc | apply Kd.R_drewN | apply Kd.R_drew)); exact HO242.out)) k_ hn_))⟩)); have n5_ := Aside0.mk (hb); clear BK144; clear HI150; clear HO196; clear HO242; clear HB; clear HO271; have BK144 := n0_; have HI150 := n1_; have HO196 := n2_; have HO242 := n3_; have HO276 := n4_; have HB := n5_; clear n0_ n1_ n2_ n3_ n4_ n5_; (try clear hb); (try clear hkp); (try clear ho0)) | (go_at_call 8; (with_reducible refine (gangwaylaw9_num.calls t199 t278 _ A58.out).mono ?_); rintro e w' ⟨rfl, ⟨nd, rfl⟩⟩) | (go_at_call 8; (with_reducible refine (gangwaylaw9_num.calls t245 t279 _ A60.out).mono ?_); rintro e w' ⟨rfl, ⟨nd, rfl⟩⟩; have hnb69 := NB144_150.out; have hnc69 := NB150_144.out; have hcz70_0 : w68.cell? ⟨gb144, 0, none⟩ = some (.int .i64 a0_0) := (blk_cell BK144.out 0).trans rfl; have hcz70_1 : w68.cell? ⟨gb144, 1, none⟩ = some (.int .i64 a0_1) := (blk_cell BK144.out 1).trans rfl; have hcz70_2 : w68.cell? ⟨gb144, 2, none⟩ = some (.int .i64 a0_2) := (blk_cell BK144.out 2).trans rfl; have hcz70_3 : w68.cell? ⟨gb144, 3, none⟩ = some (.slice A0_3 l0_3.length c0_3) := (blk_cell BK144.out 3).trans rfl; have hfz70_0 := blk_frozen BK144.out 0; have hfz70_1 := blk_frozen BK144.out 1; have hfz70_2 := blk_frozen BK144.out 2; have hfz70_3 := blk_frozen BK144.out 3) | (go_at_call 13; (with_reducible refine (gangwaylaw9_wakes.calls kj38  t280 _ A63.out).mono ?_); rintro e w71 ⟨rfl, hb⟩; have n0_ := Aside0.mk (Kd.R_below (by (with_reducible repeat (first | apply Kd.R_alloc | apply Kd.R_drewN | apply Kd.R_drew)); exact HO196.out) hb); have n1_ := Aside0.mk (Kd.R_below (by (with_reducible repeat (first | apply Kd.R_alloc | apply Kd.R_drewN | apply Kd.R_drew)); exact HO242.out) hb); have n2_ := Aside0.mk (Kd.R_below (by (with_reducible repeat (first | apply Kd.R_alloc | apply Kd.R_drewN | apply Kd.R_drew)); exact HO276.out) hb); have n3_ := Aside0.mk (blk_below (g := gb144) (o := .cells #[.int .i64 a0_0, .int .i64 a0_1, .int .i64 a0_2, .slice A0_3 l0_3.length c0_3] 26 (0, 0)) (by (with_reducible repeat (first | refine blk_drewN ?_ _ | refine blk_drew ?_ | refine blk_alloc ?_ _)); exact BK144.out) hb); have n4_ := Aside0.mk (IsS61.below (by repeat (first | (with_reducible first | exact HI150.out | apply IsS61.alloc | apply IsS61.drewN | apply IsS61.drew | apply IsS61.set_0 | apply IsS61.set_1 | refine IsS61.far ?_ NB150_144.out _) | exact HI150.out)) hb); have n5_ := Aside0.mk (below_step (by repeat (first | (with_reducible first | exact HB.out | apply below_alloc | apply pw_below_drewN | apply below_drew1 | refine below_set ?_ (IsS61.ge HI150.out) | refine below_set ?_ GE144.out) | exact HB.out)) hb); clear HO196; clear HO242; clear HO276; clear BK144; clear HI150; clear HB; have HO196 := n0_; have HO242 := n1_; have HO276 := n2_; have BK144 := n3_; have HI150 := n4_; have HB := n5_; clear n0_ n1_ n2_ n3_ n4_ n5_; (try clear hb); (try clear hb2); (try clear hk); (try clear hi)))
                                    go_ret
                                    exact ⟨by first | rfl | (simp [errW_none, errW_some] <;> rfl) | (simp [*, errW_none, errW_some] <;> rfl), by repeat (first | (with_reducible first | exact HB.out | apply below_alloc | apply pw_below_drewN | apply below_drew1 | refine below_set ?_ (IsS61.ge HI150.out) | refine below_set ?_ GE144.out) | exact HB.out)⟩
                                  · rw [if_neg c62] at H
                                    exact absurd H (by simp)
                                · rw [if_neg c61] at H
                                  exact absurd H (by simp)
                              · rw [if_neg c59] at H
                                exact absurd H (by simp)
                            · rw [if_neg c57] at H
                              exact absurd H (by simp)
                          · rw [if_neg c55] at H
                            exact absurd H (by simp)
                        · rw [if_neg c53] at H
                          exact absurd H (by simp)
  · replace c3 := Bool.eq_false_iff.mpr c3
    subst c3
    have H1 : (none) = some r := by rw [if_neg (show ¬ (false = true) by decide)] at H; exact H
    clear H
    have H := H1
    clear H1
    exact absurd H (by simp)

/-- THE ONE PURE STATEMENT of gangwaylaw9_MemGrows: yours. -/
def gangwaylaw9_MemGrows.Pure : Prop := ∀ (x0 : S26), okT26 x0 → ∃ k, gangwaylaw9_MemGrows.f k x0.f0.f0 x0.f0.f1 x0.f1 x0.f2 = some true
theorem gangwaylaw9_MemGrows.walk (P : gangwaylaw9_MemGrows.Pure) (w : World) (x0 : S26) (A0_3 : Option Addr) (c0_3 : Nat) (hr0_3 : Kd.C k48 w A0_3 x0.f2.length x0.f2) (hc0_3 : x0.f2.length ≤ c0_3) (hok0 : okT26 x0) :
    Calls Try.prog 3 #[.agg #[.int .i64 x0.f0.f0, .int .i64 x0.f0.f1, .int .i64 x0.f1, .slice A0_3 x0.f2.length c0_3]] w fun e w' => e = .returned (.bool true) ∧ Below w.heap.size w w' := by
  obtain ⟨k, h⟩ := P x0 hok0
  refine (gangwaylaw9_MemGrows.calls k x0.f0.f0 x0.f0.f1 x0.f1 _ _ x0.f2 true w hr0_3 hc0_3 h).mono ?_
  rintro e w' ⟨rfl, hd⟩
  exact ⟨rfl, hd⟩

end Go.Proofs.Ytjmajhalgdeicaa.PAll
