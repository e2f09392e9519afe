/- Printed by a copy of the printer that was turned for this claim: functions as plain Lean functions, with proofs that their calls come to these; or words that such proofs use. -/
import Derived.Test.YtgmlnigelbplnaaPAllx0
import Derived.Test.YtgmlnigelbplnaaPAllx1
import Derived.Test.YtgmlnigelbplnaaPAllx2
import Derived.Test.YtgmlnigelbplnaaPAllx3
import Derived.Test.YtgmlnigelbplnaaPAllx4
import Derived.Test.YtgmlnigelbplnaaPAllx7
namespace Go.Proofs.Ytgmlnigelbplnaa.PAll
open Go.RowKit Go.Proofs.YtgmlnigelbplnaaW.PrintWords Go.Proofs.YtgmlnigelbplnaaW.PrintLast Go.Proofs.YtgmlnigelbplnaaW.PrintMore
attribute [local go_sem] max2_int min2_int max_two min_two max_three min_three max_four min_four   -- for this text's walks alone
set_option linter.unusedVariables false
set_option linter.unusedSimpArgs false

/-! ### gangwaylaw1_LebSizes: function 8 -/
mutual
def gangwaylaw1_LebSizes.l0 : Nat → List (S26) → Int → Option (Bool)
  | 0, _, _ => none
  | k + 1, x0, x3 => if x3 < (x0.length : Int) then (gangwaylaw1_LebSizes.j1 k x0 x3 (decide (x3 < 30))) else (gangwaylaw1_LebSizes.j1 k x0 x3 false)
def gangwaylaw1_LebSizes.j1 : Nat → List (S26) → Int → Bool → Option (Bool)
  | 0, _, _, _ => none
  | k + 1, x0, x3, x25 => if x25 = true then (if 0 ≤ x3 then (if x3 < (x0.length : Int) then (gangwaylaw1_LebSizes.l1 k x0 x3 1 ((rd_T26 x0 x3).f2)) else (none)) else (none)) else ((leb_Uint.f k ([] : List Int) 32).bind fun bt347 => ((leb_Sint.f k (([0] : List Int)) 65).bind fun bt353 => ((gangwaylaw1_num.f bt347.2.2).bind fun t356 => (if t356 = 100 then ((gangwaylaw1_num.f bt353.2.2).bind fun t357 => (if t357 = 100 then ((gangwaylaw1_wakes.f k).bind fun t358 => (some t358)) else (some false))) else (some false)))))
def gangwaylaw1_LebSizes.l1 : Nat → List (S26) → Int → Int → Int → Option (Bool)
  | 0, _, _, _, _ => none
  | k + 1, x0, x3, x4, x5 => if x5 ≥ 128 then (gangwaylaw1_LebSizes.l1 k x0 x3 (wrap64 (x4 + 1)) (x5 / 128)) else (if 0 ≤ x3 then (if x3 < (x0.length : Int) then (gangwaylaw1_LebSizes.l2 k x0 x3 x4 1 ((rd_T26 x0 x3).f3)) else (none)) else (none))
def gangwaylaw1_LebSizes.l2 : Nat → List (S26) → Int → Int → Int → Int → Option (Bool)
  | 0, _, _, _, _, _ => none
  | k + 1, x0, x3, x4, x6, x7 => if x7 > 63 then (gangwaylaw1_LebSizes.l2 k x0 x3 x4 (wrap64 (x6 + 1)) (x7 / 128)) else (if x7 < (-64) then (gangwaylaw1_LebSizes.l2 k x0 x3 x4 (wrap64 (x6 + 1)) (x7 / 128)) else (if 0 ≤ x3 then (if x3 < (x0.length : Int) then ((leb_PutUint.f k ((rd_T26 x0 x3).f2)).bind fun t338 => ((leb_PutSint.f k ((rd_T26 x0 x3).f3)).bind fun t342 => (if (t338.length : Int) = x4 then (gangwaylaw1_LebSizes.j4 k x0 x3 t338 t342 ((t342.length : Int) != x6)) else (gangwaylaw1_LebSizes.j4 k x0 x3 t338 t342 true)))) else (none)) else (none)))
def gangwaylaw1_LebSizes.j4 : Nat → List (S26) → Int → List Int → List Int → Bool → Option (Bool)
  | 0, _, _, _, _, _ => none
  | k + 1, x0, x3, x8, x9, x75 => if x75 = true then (some false) else (gangwaylaw1_LebSizes.l3 k x0 x3 x8 x9 0)
def gangwaylaw1_LebSizes.l3 : Nat → List (S26) → Int → List Int → List Int → Int → Option (Bool)
  | 0, _, _, _, _, _ => none
  | k + 1, x0, x3, x8, x9, x10 => if x10 < (x8.length : Int) then (if 0 ≤ x10 then (if ((decide ((rd x8 x10) ≥ 128)) != (decide (x10 < (wrap64 ((x8.length : Int) - 1))))) = true then (some false) else (gangwaylaw1_LebSizes.l3 k x0 x3 x8 x9 (wrap64 (x10 + 1)))) else (none)) else (gangwaylaw1_LebSizes.l4 k x0 x3 x9 0)
def gangwaylaw1_LebSizes.l4 : Nat → List (S26) → Int → List Int → Int → Option (Bool)
  | 0, _, _, _, _ => none
  | k + 1, x0, x3, x9, x11 => if x11 < (x9.length : Int) then (if 0 ≤ x11 then (if ((decide ((rd x9 x11) ≥ 128)) != (decide (x11 < (wrap64 ((x9.length : Int) - 1))))) = true then (some false) else (gangwaylaw1_LebSizes.l4 k x0 x3 x9 (wrap64 (x11 + 1)))) else (none)) else (gangwaylaw1_LebSizes.l0 k x0 (wrap64 (x3 + 1)))
end
def gangwaylaw1_LebSizes.f (k : Nat) (l0 : List (S26)) : Option (Bool) := gangwaylaw1_LebSizes.l0 k l0 0
theorem gangwaylaw1_LebSizes.mono_l : ∀ k, (∀ y0 y1, LeO (gangwaylaw1_LebSizes.l0 k y0 y1) (gangwaylaw1_LebSizes.l0 (k + 1) y0 y1)) ∧ (∀ y0 y1 y2, LeO (gangwaylaw1_LebSizes.j1 k y0 y1 y2) (gangwaylaw1_LebSizes.j1 (k + 1) y0 y1 y2)) ∧ (∀ y0 y1 y2 y3, LeO (gangwaylaw1_LebSizes.l1 k y0 y1 y2 y3) (gangwaylaw1_LebSizes.l1 (k + 1) y0 y1 y2 y3)) ∧ (∀ y0 y1 y2 y3 y4, LeO (gangwaylaw1_LebSizes.l2 k y0 y1 y2 y3 y4) (gangwaylaw1_LebSizes.l2 (k + 1) y0 y1 y2 y3 y4)) ∧ (∀ y0 y1 y2 y3 y4, LeO (gangwaylaw1_LebSizes.j4 k y0 y1 y2 y3 y4) (gangwaylaw1_LebSizes.j4 (k + 1) y0 y1 y2 y3 y4)) ∧ (∀ y0 y1 y2 y3 y4, LeO (gangwaylaw1_LebSizes.l3 k y0 y1 y2 y3 y4) (gangwaylaw1_LebSizes.l3 (k + 1) y0 y1 y2 y3 y4)) ∧ (∀ y0 y1 y2 y3, LeO (gangwaylaw1_LebSizes.l4 k y0 y1 y2 y3) (gangwaylaw1_LebSizes.l4 (k + 1) y0 y1 y2 y3))
  | 0 => ⟨fun _ _ r h => by simp [gangwaylaw1_LebSizes.l0] at h, fun _ _ _ r h => by simp [gangwaylaw1_LebSizes.j1] at h, fun _ _ _ _ r h => by simp [gangwaylaw1_LebSizes.l1] at h, fun _ _ _ _ _ r h => by simp [gangwaylaw1_LebSizes.l2] at h, fun _ _ _ _ _ r h => by simp [gangwaylaw1_LebSizes.j4] at h, fun _ _ _ _ _ r h => by simp [gangwaylaw1_LebSizes.l3] at h, fun _ _ _ _ r h => by simp [gangwaylaw1_LebSizes.l4] at h⟩
  | k + 1 => by
    obtain ⟨ih0, ih1, ih2, ih3, ih4, ih5, ih6⟩ := gangwaylaw1_LebSizes.mono_l k
    refine ⟨?_, ?_, ?_, ?_, ?_, ?_, ?_⟩
    · intro y0 y1
      unfold gangwaylaw1_LebSizes.l0
      repeat' first
      | (with_reducible exact ih0 _ _)
      | (with_reducible exact ih1 _ _ _)
      | (with_reducible exact ih2 _ _ _ _)
      | (with_reducible exact ih3 _ _ _ _ _)
      | (with_reducible exact ih4 _ _ _ _ _)
      | (with_reducible exact ih5 _ _ _ _ _)
      | (with_reducible exact ih6 _ _ _ _)
      | (with_reducible exact gangwaylaw1_wakes.mono _)
      | (with_reducible exact leb_PutSint.mono _ _)
      | (with_reducible exact leb_PutUint.mono _ _)
      | (with_reducible exact leb_Sint.mono _ _ _)
      | (with_reducible exact leb_Uint.mono _ _ _)
      | (with_reducible exact LeO.refl _)
      | (with_reducible exact LeO.none _)
      | (with_reducible refine LeO.ite ?_ ?_)
      | (with_reducible refine LeO.bind ?_ (fun _ => ?_))
      | exact ih0 _ _
      | exact ih1 _ _ _
      | exact ih2 _ _ _ _
      | exact ih3 _ _ _ _ _
      | exact ih4 _ _ _ _ _
      | exact ih5 _ _ _ _ _
      | exact ih6 _ _ _ _
      | exact gangwaylaw1_wakes.mono _
      | exact leb_PutSint.mono _ _
      | exact leb_PutUint.mono _ _
      | exact leb_Sint.mono _ _ _
      | exact leb_Uint.mono _ _ _
      | exact LeO.none _
      | refine LeO.ite ?_ ?_
      | refine LeO.bind ?_ (fun _ => ?_)
    · intro y0 y1 y2
      unfold gangwaylaw1_LebSizes.j1
      repeat' first
      | (with_reducible exact ih0 _ _)
      | (with_reducible exact ih1 _ _ _)
      | (with_reducible exact ih2 _ _ _ _)
      | (with_reducible exact ih3 _ _ _ _ _)
      | (with_reducible exact ih4 _ _ _ _ _)
      | (with_reducible exact ih5 _ _ _ _ _)
      | (with_reducible exact ih6 _ _ _ _)
      | (with_reducible exact gangwaylaw1_wakes.mono _)
      | (with_reducible exact leb_PutSint.mono _ _)
      | (with_reducible exact leb_PutUint.mono _ _)
      | (with_reducible exact leb_Sint.mono _ _ _)
      | (with_reducible exact leb_Uint.mono _ _ _)
      | (with_reducible exact LeO.refl _)
      | (with_reducible exact LeO.none _)
      | (with_reducible refine LeO.ite ?_ ?_)
      | (with_reducible refine LeO.bind ?_ (fun _ => ?_))
      | exact ih0 _ _
      | exact ih1 _ _ _
      | exact ih2 _ _ _ _
      | exact ih3 _ _ _ _ _
      | exact ih4 _ _ _ _ _
      | exact ih5 _ _ _ _ _
      | exact ih6 _ _ _ _
      | exact gangwaylaw1_wakes.mono _
      | exact leb_PutSint.mono _ _
      | exact leb_PutUint.mono _ _
      | exact leb_Sint.mono _ _ _
      | exact leb_Uint.mono _ _ _
      | exact LeO.none _
      | refine LeO.ite ?_ ?_
      | refine LeO.bind ?_ (fun _ => ?_)
    · intro y0 y1 y2 y3
      unfold gangwaylaw1_LebSizes.l1
      repeat' first
      | (with_reducible exact ih0 _ _)
      | (with_reducible exact ih1 _ _ _)
      | (with_reducible exact ih2 _ _ _ _)
      | (with_reducible exact ih3 _ _ _ _ _)
      | (with_reducible exact ih4 _ _ _ _ _)
      | (with_reducible exact ih5 _ _ _ _ _)
      | (with_reducible exact ih6 _ _ _ _)
      | (with_reducible exact gangwaylaw1_wakes.mono _)
      | (with_reducible exact leb_PutSint.mono _ _)
      | (with_reducible exact leb_PutUint.mono _ _)
      | (with_reducible exact leb_Sint.mono _ _ _)
      | (with_reducible exact leb_Uint.mono _ _ _)
      | (with_reducible exact LeO.refl _)
      | (with_reducible exact LeO.none _)
      | (with_reducible refine LeO.ite ?_ ?_)
      | (with_reducible refine LeO.bind ?_ (fun _ => ?_))
      | exact ih0 _ _
      | exact ih1 _ _ _
      | exact ih2 _ _ _ _
      | exact ih3 _ _ _ _ _
      | exact ih4 _ _ _ _ _
      | exact ih5 _ _ _ _ _
      | exact ih6 _ _ _ _
      | exact gangwaylaw1_wakes.mono _
      | exact leb_PutSint.mono _ _
      | exact leb_PutUint.mono _ _
      | exact leb_Sint.mono _ _ _
      | exact leb_Uint.mono _ _ _
      | exact LeO.none _
      | refine LeO.ite ?_ ?_
      | refine LeO.bind ?_ (fun _ => ?_)
    · intro y0 y1 y2 y3 y4
      unfold gangwaylaw1_LebSizes.l2
      repeat' first
      | (with_reducible exact ih0 _ _)
      | (with_reducible exact ih1 _ _ _)
      | (with_reducible exact ih2 _ _ _ _)
      | (with_reducible exact ih3 _ _ _ _ _)
      | (with_reducible exact ih4 _ _ _ _ _)
      | (with_reducible exact ih5 _ _ _ _ _)
      | (with_reducible exact ih6 _ _ _ _)
      | (with_reducible exact gangwaylaw1_wakes.mono _)
      | (with_reducible exact leb_PutSint.mono _ _)
      | (with_reducible exact leb_PutUint.mono _ _)
      | (with_reducible exact leb_Sint.mono _ _ _)
      | (with_reducible exact leb_Uint.mono _ _ _)
      | (with_reducible exact LeO.refl _)
      | (with_reducible exact LeO.none _)
      | (with_reducible refine LeO.ite ?_ ?_)
      | (with_reducible refine LeO.bind ?_ (fun _ => ?_))
      | exact ih0 _ _
      | exact ih1 _ _ _
      | exact ih2 _ _ _ _
      | exact ih3 _ _ _ _ _
      | exact ih4 _ _ _ _ _
      | exact ih5 _ _ _ _ _
      | exact ih6 _ _ _ _
      | exact gangwaylaw1_wakes.mono _
      | exact leb_PutSint.mono _ _
      | exact leb_PutUint.mono _ _
      | exact leb_Sint.mono _ _ _
      | exact leb_Uint.mono _ _ _
      | exact LeO.none _
      | refine LeO.ite ?_ ?_
      | refine LeO.bind ?_ (fun _ => ?_)
    · intro y0 y1 y2 y3 y4
      unfold gangwaylaw1_LebSizes.j4
      repeat' first
      | (with_reducible exact ih0 _ _)
      | (with_reducible exact ih1 _ _ _)
      | (with_reducible exact ih2 _ _ _ _)
      | (with_reducible exact ih3 _ _ _ _ _)
      | (with_reducible exact ih4 _ _ _ _ _)
      | (with_reducible exact ih5 _ _ _ _ _)
      | (with_reducible exact ih6 _ _ _ _)
      | (with_reducible exact gangwaylaw1_wakes.mono _)
      | (with_reducible exact leb_PutSint.mono _ _)
      | (with_reducible exact leb_PutUint.mono _ _)
      | (with_reducible exact leb_Sint.mono _ _ _)
      | (with_reducible exact leb_Uint.mono _ _ _)
      | (with_reducible exact LeO.refl _)
      | (with_reducible exact LeO.none _)
      | (with_reducible refine LeO.ite ?_ ?_)
      | (with_reducible refine LeO.bind ?_ (fun _ => ?_))
      | exact ih0 _ _
      | exact ih1 _ _ _
      | exact ih2 _ _ _ _
      | exact ih3 _ _ _ _ _
      | exact ih4 _ _ _ _ _
      | exact ih5 _ _ _ _ _
      | exact ih6 _ _ _ _
      | exact gangwaylaw1_wakes.mono _
      | exact leb_PutSint.mono _ _
      | exact leb_PutUint.mono _ _
      | exact leb_Sint.mono _ _ _
      | exact leb_Uint.mono _ _ _
      | exact LeO.none _
      | refine LeO.ite ?_ ?_
      | refine LeO.bind ?_ (fun _ => ?_)
    · intro y0 y1 y2 y3 y4
      unfold gangwaylaw1_LebSizes.l3
      repeat' first
      | (with_reducible exact ih0 _ _)
      | (with_reducible exact ih1 _ _ _)
      | (with_reducible exact ih2 _ _ _ _)
      | (with_reducible exact ih3 _ _ _ _ _)
      | (with_reducible exact ih4 _ _ _ _ _)
      | (with_reducible exact ih5 _ _ _ _ _)
      | (with_reducible exact ih6 _ _ _ _)
      | (with_reducible exact gangwaylaw1_wakes.mono _)
      | (with_reducible exact leb_PutSint.mono _ _)
      | (with_reducible exact leb_PutUint.mono _ _)
      | (with_reducible exact leb_Sint.mono _ _ _)
      | (with_reducible exact leb_Uint.mono _ _ _)
      | (with_reducible exact LeO.refl _)
      | (with_reducible exact LeO.none _)
      | (with_reducible refine LeO.ite ?_ ?_)
      | (with_reducible refine LeO.bind ?_ (fun _ => ?_))
      | exact ih0 _ _
      | exact ih1 _ _ _
      | exact ih2 _ _ _ _
      | exact ih3 _ _ _ _ _
      | exact ih4 _ _ _ _ _
      | exact ih5 _ _ _ _ _
      | exact ih6 _ _ _ _
      | exact gangwaylaw1_wakes.mono _
      | exact leb_PutSint.mono _ _
      | exact leb_PutUint.mono _ _
      | exact leb_Sint.mono _ _ _
      | exact leb_Uint.mono _ _ _
      | exact LeO.none _
      | refine LeO.ite ?_ ?_
      | refine LeO.bind ?_ (fun _ => ?_)
    · intro y0 y1 y2 y3
      unfold gangwaylaw1_LebSizes.l4
      repeat' first
      | (with_reducible exact ih0 _ _)
      | (with_reducible exact ih1 _ _ _)
      | (with_reducible exact ih2 _ _ _ _)
      | (with_reducible exact ih3 _ _ _ _ _)
      | (with_reducible exact ih4 _ _ _ _ _)
      | (with_reducible exact ih5 _ _ _ _ _)
      | (with_reducible exact ih6 _ _ _ _)
      | (with_reducible exact gangwaylaw1_wakes.mono _)
      | (with_reducible exact leb_PutSint.mono _ _)
      | (with_reducible exact leb_PutUint.mono _ _)
      | (with_reducible exact leb_Sint.mono _ _ _)
      | (with_reducible exact leb_Uint.mono _ _ _)
      | (with_reducible exact LeO.refl _)
      | (with_reducible exact LeO.none _)
      | (with_reducible refine LeO.ite ?_ ?_)
      | (with_reducible refine LeO.bind ?_ (fun _ => ?_))
      | exact ih0 _ _
      | exact ih1 _ _ _
      | exact ih2 _ _ _ _
      | exact ih3 _ _ _ _ _
      | exact ih4 _ _ _ _ _
      | exact ih5 _ _ _ _ _
      | exact ih6 _ _ _ _
      | exact gangwaylaw1_wakes.mono _
      | exact leb_PutSint.mono _ _
      | exact leb_PutUint.mono _ _
      | exact leb_Sint.mono _ _ _
      | exact leb_Uint.mono _ _ _
      | exact LeO.none _
      | refine LeO.ite ?_ ?_
      | refine LeO.bind ?_ (fun _ => ?_)
theorem gangwaylaw1_LebSizes.mono : ∀ a0 k, LeO (gangwaylaw1_LebSizes.f k a0) (gangwaylaw1_LebSizes.f (k + 1) a0) := by
  intro a0 k
  obtain ⟨ih0, ih1, ih2, ih3, ih4, ih5, ih6⟩ := gangwaylaw1_LebSizes.mono_l k
  unfold gangwaylaw1_LebSizes.f
  repeat' first
      | (with_reducible exact ih0 _ _)
      | (with_reducible exact ih1 _ _ _)
      | (with_reducible exact ih2 _ _ _ _)
      | (with_reducible exact ih3 _ _ _ _ _)
      | (with_reducible exact ih4 _ _ _ _ _)
      | (with_reducible exact ih5 _ _ _ _ _)
      | (with_reducible exact ih6 _ _ _ _)
      | (with_reducible exact gangwaylaw1_wakes.mono _)
      | (with_reducible exact leb_PutSint.mono _ _)
      | (with_reducible exact leb_PutUint.mono _ _)
      | (with_reducible exact leb_Sint.mono _ _ _)
      | (with_reducible exact leb_Uint.mono _ _ _)
      | (with_reducible exact LeO.refl _)
      | (with_reducible exact LeO.none _)
      | (with_reducible refine LeO.ite ?_ ?_)
      | (with_reducible refine LeO.bind ?_ (fun _ => ?_))
      | exact ih0 _ _
      | exact ih1 _ _ _
      | exact ih2 _ _ _ _
      | exact ih3 _ _ _ _ _
      | exact ih4 _ _ _ _ _
      | exact ih5 _ _ _ _ _
      | exact ih6 _ _ _ _
      | exact gangwaylaw1_wakes.mono _
      | exact leb_PutSint.mono _ _
      | exact leb_PutUint.mono _ _
      | exact leb_Sint.mono _ _ _
      | exact leb_Uint.mono _ _ _
      | exact LeO.none _
      | refine LeO.ite ?_ ?_
      | refine LeO.bind ?_ (fun _ => ?_)
set_option maxHeartbeats 8000000 in
set_option maxRecDepth 100000 in
theorem gangwaylaw1_LebSizes.calls (k : Nat) (A0 : Option Addr) (c0 : Nat) (l0 : List (S26)) (r : Bool) (w : World) (hr0 : Kd.C k26 w A0 l0.length l0) (hc0 : l0.length ≤ c0) (h : gangwaylaw1_LebSizes.f k l0 = some r) :
    Calls Try.prog 8 #[.slice A0 l0.length c0] w fun e w' => e = .returned (.bool r) ∧ Below w.heap.size w w' := by
  have HR0 := Aside0.mk hr0
  have HC0 := Aside0.mk hc0
  clear hr0 hc0
  have HB := Aside0.mk (Below.refl w.heap.size w)
  have H : (gangwaylaw1_LebSizes.l0 k l0 0) = some r := h
  clear h
  have H' := Aside0.mk H
  clear H
  go_enter Try.func8, Try.ntmps8
  go_wp2
  go_loopg [3] k (fun kq v3 w' => ∃ (x3_1 : Int), v3 = .int .i64 x3_1 ∧ Aside0 (gangwaylaw1_LebSizes.l0 kq l0 x3_1 = some r) ∧ Aside0 (kq ≤ k) ∧ Aside0 (Below w.heap.size w w'))
  case atStart => exact ⟨(0), (by first | rfl | (simp; done) | (simp [*]; done)), H', ⟨Nat.le_refl _⟩, ⟨by repeat (first | (with_reducible first | exact HB.out | apply below_alloc | apply pw_below_drewN | apply below_drew1) | exact HB.out)⟩⟩
  case round =>
    clear H'
    obtain ⟨x3_1, rfl, HA, HK1, HB⟩ := hrel
    cases gk with
    | zero => exact absurd HA.out (by simp [gangwaylaw1_LebSizes.l0])
    | succ k1 =>
      have H := HA.out
      clear HA
      simp only [gangwaylaw1_LebSizes.l0] at H
      have HC2 := Aside0.mk H
      clear H
      go_upto_region 2 with (fail)
      go_cut [25] (fun v25 wc => ∃ (kq : Nat) (x25_1 : Bool), v25 = .bool x25_1 ∧ Aside0 (gangwaylaw1_LebSizes.j1 kq l0 x3_1 x25_1 = some r) ∧ Aside0 (kq ≤ k1) ∧ Aside0 (Below w.heap.size w wc))
      case first =>
        have H := HC2.out
        clear HC2
        by_cases c3 : x3_1 < (l0.length : Int)
        · rw [if_pos c3] at H
          have c3b0 : decide (x3_1 < (l0.length : Int)) = true := decide_eq_true c3
          clear c3
          (first | rw [c3b0] | (simp only [i64_w, i32_w]; rw [c3b0]) | skip)
          have H' := Aside0.mk H
          clear H
          go_wp2
          go_meet
          case rel => exact ⟨_, (decide (x3_1 < 30)), (by first | rfl | (simp; done) | (simp [*]; done)), H', ⟨by have := HK1.out; first | omega | exact Nat.le_refl _⟩, ⟨by repeat (first | (with_reducible first | exact HB.out | apply below_alloc | apply pw_below_drewN | apply below_drew1) | exact HB.out)⟩⟩
        · rw [if_neg c3] at H
          have c3b0 : decide (x3_1 < (l0.length : Int)) = false := decide_eq_false c3
          clear c3
          (first | rw [c3b0] | (simp only [i64_w, i32_w]; rw [c3b0]) | skip)
          have H' := Aside0.mk H
          clear H
          go_wp2
          go_meet
          case rel => exact ⟨_, (false), (by first | rfl | (simp; done) | (simp [*]; done)), H', ⟨by have := HK1.out; first | omega | exact Nat.le_refl _⟩, ⟨by repeat (first | (with_reducible first | exact HB.out | apply below_alloc | apply pw_below_drewN | apply below_drew1) | exact HB.out)⟩⟩
      case rest =>
        clear HC2
        try clear p2
        try clear c3
        try clear c3b0
        obtain ⟨kq, x25_1, rfl, HA, HJ1, HB⟩ := hcut
        cases kq with
        | zero => exact absurd HA.out (by simp [gangwaylaw1_LebSizes.j1])
        | succ kj1 =>
          have H := HA.out
          clear HA
          simp only [gangwaylaw1_LebSizes.j1] at H
          by_cases c4 : x25_1 = true
          · subst c4
            have H1 : (if 0 ≤ x3_1 then (if x3_1 < (l0.length : Int) then (gangwaylaw1_LebSizes.l1 kj1 l0 x3_1 1 ((rd_T26 l0 x3_1).f2)) else (none)) else (none)) = some r := by rw [if_pos rfl] at H; exact H
            clear H
            have H := H1
            clear H1
            by_cases c5 : 0 ≤ x3_1
            · rw [if_pos c5] at H
              have c5b0 : decide (0 ≤ x3_1) = true := decide_eq_true c5
              clear c5
              by_cases c6 : x3_1 < (l0.length : Int)
              · rw [if_pos c6] at H
                have c6b0 : decide (x3_1 < (l0.length : Int)) = true := decide_eq_true c6
                clear c6
                have H' := Aside0.mk H
                clear H
                have p335 : 0 ≤ (x3_1 : Int) := of_decide_eq_true (by first | (with_reducible assumption) | assumption)
                have q335 : x3_1 < (l0.length : Int) := of_decide_eq_true (by first | (with_reducible assumption) | assumption)
                obtain ⟨ad335, A335_0, c335_0, e335, hx335_0, hx335_1, hx335_2, hx335_3, hl335_0, hi335_0⟩ := at_T26 HR0.out x3_1 p335 q335
                cases e335
                replace hx335_0 := (HB.out.cell (World.block_lt_of_cell? w _ hx335_0)).trans hx335_0
                replace hx335_1 := (HB.out.cell (World.block_lt_of_cell? w _ hx335_1)).trans hx335_1
                replace hx335_2 := (HB.out.cell (World.block_lt_of_cell? w _ hx335_2)).trans hx335_2
                replace hx335_3 := (HB.out.cell (World.block_lt_of_cell? w _ hx335_3)).trans hx335_3
                have HR335_0 := Aside0.mk hi335_0
                have HC335_0 := Aside0.mk hl335_0
                clear hi335_0 hl335_0
                replace p335 := eq_true p335
                replace q335 := eq_true q335
                go_wp2
                go_loopg [4, 5] kj1 (fun kq v4 v5 w' => ∃ (x4_3 : Int) (x5_3 : Int), v4 = .int .i64 x4_3 ∧ v5 = .int .u64 x5_3 ∧ Aside0 (gangwaylaw1_LebSizes.l1 kq l0 x3_1 x4_3 x5_3 = some r) ∧ Aside0 (kq ≤ kj1) ∧ Aside0 (Below w.heap.size w w'))
                case atStart => exact ⟨(1), ((rd_T26 l0 x3_1).f2), (by first | rfl | (simp; done) | (simp [*]; done)), (by first | rfl | (simp; done) | (simp [*]; done)), H', ⟨Nat.le_refl _⟩, ⟨by repeat (first | (with_reducible first | exact HB.out | apply below_alloc | apply pw_below_drewN | apply below_drew1) | exact HB.out)⟩⟩
                case round =>
                  clear H'
                  try clear p2
                  try clear c3
                  try clear c3b0
                  try clear p3
                  try clear q3
                  try clear hx3
                  try clear c4
                  try clear c5
                  try clear c5b0
                  try clear c6
                  try clear c6b0
                  try clear hx335_0
                  try clear hx335_1
                  try clear hx335_2
                  try clear hx335_3
                  try clear p2
                  try clear p335
                  try clear q335
                  obtain ⟨x4_3, x5_3, rfl, rfl, HA, HK3, HB⟩ := hrel
                  cases gk with
                  | zero => exact absurd HA.out (by simp [gangwaylaw1_LebSizes.l1])
                  | succ k3 =>
                    have H := HA.out
                    clear HA
                    simp only [gangwaylaw1_LebSizes.l1] at H
                    by_cases c7 : x5_3 ≥ 128
                    · rw [if_pos c7] at H
                      have c7b0 : decide (128 ≤ x5_3) = true := decide_eq_true c7
                      clear c7
                      have H' := Aside0.mk H
                      clear H
                      go_wp2
                      go_roundg k3
                      case measure => have := HK1.out; have := HJ1.out; have := HK3.out; omega
                      case rel => exact ⟨(wrap64 (x4_3 + 1)), (x5_3 / 128), (by first | rfl | (simp; done) | (simp [*]; done)), (by first | rfl | (simp; done) | (simp [*]; done)), H', ⟨by have := HK1.out; have := HJ1.out; have := HK3.out; omega⟩, ⟨by repeat (first | (with_reducible first | exact HB.out | apply below_alloc | apply pw_below_drewN | apply below_drew1) | exact HB.out)⟩⟩
                    · rw [if_neg c7] at H
                      have c7b0 : decide (128 ≤ x5_3) = false := decide_eq_false c7
                      clear c7
                      by_cases c8 : 0 ≤ x3_1
                      · rw [if_pos c8] at H
                        have c8b0 : decide (0 ≤ x3_1) = true := decide_eq_true c8
                        clear c8
                        by_cases c9 : x3_1 < (l0.length : Int)
                        · rw [if_pos c9] at H
                          have c9b0 : decide (x3_1 < (l0.length : Int)) = true := decide_eq_true c9
                          clear c9
                          have H' := Aside0.mk H
                          clear H
                          have p336 : 0 ≤ (x3_1 : Int) := of_decide_eq_true (by first | (with_reducible assumption) | assumption)
                          have q336 : x3_1 < (l0.length : Int) := of_decide_eq_true (by first | (with_reducible assumption) | assumption)
                          obtain ⟨ad336, A336_0, c336_0, e336, hx336_0, hx336_1, hx336_2, hx336_3, hl336_0, hi336_0⟩ := at_T26 HR0.out x3_1 p336 q336
                          obtain rfl : ad335 = ad336 := (by injection e336)
                          replace hx336_0 := (HB.out.cell (World.block_lt_of_cell? w _ hx336_0)).trans hx336_0
                          replace hx336_1 := (HB.out.cell (World.block_lt_of_cell? w _ hx336_1)).trans hx336_1
                          replace hx336_2 := (HB.out.cell (World.block_lt_of_cell? w _ hx336_2)).trans hx336_2
                          replace hx336_3 := (HB.out.cell (World.block_lt_of_cell? w _ hx336_3)).trans hx336_3
                          have HR336_0 := Aside0.mk hi336_0
                          have HC336_0 := Aside0.mk hl336_0
                          clear hi336_0 hl336_0
                          replace p336 := eq_true p336
                          replace q336 := eq_true q336
                          go_wp2
                          go_loopg [6, 7] k3 (fun kq v6 v7 w' => ∃ (x6_4 : Int) (x7_4 : Int), v6 = .int .i64 x6_4 ∧ v7 = .int .i64 x7_4 ∧ Aside0 (gangwaylaw1_LebSizes.l2 kq l0 x3_1 x4_3 x6_4 x7_4 = some r) ∧ Aside0 (kq ≤ k3) ∧ Aside0 (Below w.heap.size w w'))
                          case atStart => exact ⟨(1), ((rd_T26 l0 x3_1).f3), (by first | rfl | (simp; done) | (simp [*]; done)), (by first | rfl | (simp; done) | (simp [*]; done)), H', ⟨Nat.le_refl _⟩, ⟨by repeat (first | (with_reducible first | exact HB.out | apply below_alloc | apply pw_below_drewN | apply below_drew1) | exact HB.out)⟩⟩
                          case round =>
                            clear H'
                            try clear p2
                            try clear c3
                            try clear c3b0
                            try clear p3
                            try clear q3
                            try clear hx3
                            try clear c4
                            try clear c5
                            try clear c5b0
                            try clear c6
                            try clear c6b0
                            try clear p6
                            try clear c7
                            try clear c7b0
                            try clear c8
                            try clear c8b0
                            try clear c9
                            try clear c9b0
                            try clear hx335_0
                            try clear hx335_1
                            try clear hx335_2
                            try clear hx335_3
                            try clear hx336_0
                            try clear hx336_1
                            try clear hx336_2
                            try clear hx336_3
                            try clear p2
                            try clear p3
                            try clear p335
                            try clear p336
                            try clear q3
                            try clear q335
                            try clear q336
                            obtain ⟨x6_4, x7_4, rfl, rfl, HA, HK4, HB⟩ := hrel
                            cases gk with
                            | zero => exact absurd HA.out (by simp [gangwaylaw1_LebSizes.l2])
                            | succ k4 =>
                              have H := HA.out
                              clear HA
                              simp only [gangwaylaw1_LebSizes.l2] at H
                              by_cases c10 : x7_4 > 63
                              · rw [if_pos c10] at H
                                have c10b0 : decide (63 < x7_4) = true := decide_eq_true c10
                                clear c10
                                have H' := Aside0.mk H
                                clear H
                                go_wp2
                                go_roundg k4
                                case measure => have := HK1.out; have := HJ1.out; have := HK3.out; have := HK4.out; omega
                                case rel => exact ⟨(wrap64 (x6_4 + 1)), (x7_4 / 128), (by first | rfl | (simp; done) | (simp [*]; done)), (by first | rfl | (simp; done) | (simp [*]; done)), H', ⟨by have := HK1.out; have := HJ1.out; have := HK3.out; have := HK4.out; omega⟩, ⟨by repeat (first | (with_reducible first | exact HB.out | apply below_alloc | apply pw_below_drewN | apply below_drew1) | exact HB.out)⟩⟩
                              · rw [if_neg c10] at H
                                have c10b0 : decide (63 < x7_4) = false := decide_eq_false c10
                                clear c10
                                by_cases c11 : x7_4 < (-64)
                                · rw [if_pos c11] at H
                                  have c11b0 : decide (x7_4 < (-64)) = true := decide_eq_true c11
                                  clear c11
                                  have H' := Aside0.mk H
                                  clear H
                                  go_wp2
                                  go_roundg k4
                                  case measure => have := HK1.out; have := HJ1.out; have := HK3.out; have := HK4.out; omega
                                  case rel => exact ⟨(wrap64 (x6_4 + 1)), (x7_4 / 128), (by first | rfl | (simp; done) | (simp [*]; done)), (by first | rfl | (simp; done) | (simp [*]; done)), H', ⟨by have := HK1.out; have := HJ1.out; have := HK3.out; have := HK4.out; omega⟩, ⟨by repeat (first | (with_reducible first | exact HB.out | apply below_alloc | apply pw_below_drewN | apply below_drew1) | exact HB.out)⟩⟩
                                · rw [if_neg c11] at H
                                  have c11b0 : decide (x7_4 < (-64)) = false := decide_eq_false c11
                                  clear c11
                                  by_cases c12 : 0 ≤ x3_1
                                  · rw [if_pos c12] at H
                                    have c12b0 : decide (0 ≤ x3_1) = true := decide_eq_true c12
                                    clear c12
                                    by_cases c13 : x3_1 < (l0.length : Int)
                                    · rw [if_pos c13] at H
                                      have c13b0 : decide (x3_1 < (l0.length : Int)) = true := decide_eq_true c13
                                      clear c13
                                      replace H := Option.bind_eq_some_iff.mp H
                                      obtain ⟨t338, A140, H⟩ := H
                                      replace H : ((leb_PutSint.f k4 ((rd_T26 l0 x3_1).f3)).bind fun t342 => (if (t338.length : Int) = x4_3 then (gangwaylaw1_LebSizes.j4 k4 l0 x3_1 t338 t342 ((t342.length : Int) != x6_4)) else (gangwaylaw1_LebSizes.j4 k4 l0 x3_1 t338 t342 true))) = some r := H
                                      have A14 := Aside0.mk A140
                                      clear A140
                                      replace H := Option.bind_eq_some_iff.mp H
                                      obtain ⟨t342, A150, H⟩ := H
                                      replace H : (if (t338.length : Int) = x4_3 then (gangwaylaw1_LebSizes.j4 k4 l0 x3_1 t338 t342 ((t342.length : Int) != x6_4)) else (gangwaylaw1_LebSizes.j4 k4 l0 x3_1 t338 t342 true)) = some r := H
                                      have A15 := Aside0.mk A150
                                      clear A150
                                      have HC16 := Aside0.mk H
                                      clear H
                                      have p337 : 0 ≤ (x3_1 : Int) := of_decide_eq_true (by first | (with_reducible assumption) | assumption)
                                      have q337 : x3_1 < (l0.length : Int) := of_decide_eq_true (by first | (with_reducible assumption) | assumption)
                                      obtain ⟨ad337, A337_0, c337_0, e337, hx337_0, hx337_1, hx337_2, hx337_3, hl337_0, hi337_0⟩ := at_T26 HR0.out x3_1 p337 q337
                                      obtain rfl : ad335 = ad337 := (by injection e337)
                                      replace hx337_0 := (HB.out.cell (World.block_lt_of_cell? w _ hx337_0)).trans hx337_0
                                      replace hx337_1 := (HB.out.cell (World.block_lt_of_cell? w _ hx337_1)).trans hx337_1
                                      replace hx337_2 := (HB.out.cell (World.block_lt_of_cell? w _ hx337_2)).trans hx337_2
                                      replace hx337_3 := (HB.out.cell (World.block_lt_of_cell? w _ hx337_3)).trans hx337_3
                                      have HR337_0 := Aside0.mk hi337_0
                                      have HC337_0 := Aside0.mk hl337_0
                                      clear hi337_0 hl337_0
                                      replace p337 := eq_true p337
                                      replace q337 := eq_true q337
                                      go_upto_region 16 with (first | ((with_reducible refine gate_callee (f := 14) rfl ?_); refine goesL_ (some 59) rfl rfl Try.func14 (by kernel_rfl) rfl #[.int .u64 ((rd_T26 l0 x3_1).f2)] rfl (by (try simp only [List.map_toArray, List.map_cons, List.map_nil]); first | done | rfl | (simp only [List.length_drop, List.length_take]; rfl)) ?_; (with_reducible refine (leb_PutUint.calls k4 ((rd_T26 l0 x3_1).f2) t338 _ A14.out).mono ?_); rintro e w17 ⟨v339, rfl, ho0, hb⟩; refine ⟨_, rfl, ?_⟩; have n0_ := Aside0.mk (Kd.R_lower ho0 (below_size (by repeat (first | (with_reducible first | exact HB.out | apply below_alloc | apply pw_below_drewN | apply below_drew1) | exact HB.out)))); have n1_ := Aside0.mk (below_step (by repeat (first | (with_reducible first | exact HB.out | apply below_alloc | apply pw_below_drewN | apply below_drew1) | exact HB.out)) hb); clear HB; have HO340 := n0_; have HB := n1_; clear n0_ n1_; (try clear hb); (try clear hb2); (try clear hk); (try clear hi); (try clear ho0); have p341 : 0 ≤ (x3_1 : Int) := of_decide_eq_true (by first | (with_reducible assumption) | assumption); have q341 : x3_1 < (l0.length : Int) := of_decide_eq_true (by first | (with_reducible assumption) | assumption); obtain ⟨ad341, A341_0, c341_0, e341, hx341_0, hx341_1, hx341_2, hx341_3, hl341_0, hi341_0⟩ := at_T26 HR0.out x3_1 p341 q341; obtain rfl : ad335 = ad341 := (by injection e341); replace hx341_0 := (HB.out.cell (World.block_lt_of_cell? w _ hx341_0)).trans hx341_0; replace hx341_1 := (HB.out.cell (World.block_lt_of_cell? w _ hx341_1)).trans hx341_1; replace hx341_2 := (HB.out.cell (World.block_lt_of_cell? w _ hx341_2)).trans hx341_2; replace hx341_3 := (HB.out.cell (World.block_lt_of_cell? w _ hx341_3)).trans hx341_3; have HR341_0 := Aside0.mk hi341_0; have HC341_0 := Aside0.mk hl341_0; clear hi341_0 hl341_0; replace p341 := eq_true p341; replace q341 := eq_true q341) | ((with_reducible refine gate_callee (f := 16) rfl ?_); refine goesL_ (some 65) rfl rfl Try.func16 (by kernel_rfl) rfl #[.int .i64 ((rd_T26 l0 x3_1).f3)] rfl (by (try simp only [List.map_toArray, List.map_cons, List.map_nil]); first | done | rfl | (simp only [List.length_drop, List.length_take]; rfl)) ?_; (with_reducible refine (leb_PutSint.calls k4 ((rd_T26 l0 x3_1).f3) t342 _ A15.out).mono ?_); rintro e w18 ⟨v343, rfl, ho0, hb⟩; refine ⟨_, rfl, ?_⟩; have n0_ := Aside0.mk (Kd.R_elder' (by (with_reducible repeat (first | apply Kd.R_alloc | apply Kd.R_drewN | apply Kd.R_drew)); exact HO340.out) (Kd.R_base ho0) hb); have n1_ := Aside0.mk (Kd.R_lower (Kd.R_new' ho0 (Kd.R_lt (by (with_reducible repeat (first | apply Kd.R_alloc | apply Kd.R_drewN | apply Kd.R_drew)); exact HO340.out))) (below_size (by repeat (first | (with_reducible first | exact HB.out | apply below_alloc | apply pw_below_drewN | apply below_drew1) | exact HB.out)))); have n2_ := Aside0.mk (below_step (by repeat (first | (with_reducible first | exact HB.out | apply below_alloc | apply pw_below_drewN | apply below_drew1) | exact HB.out)) hb); clear HO340; clear HB; have HO340 := n0_; have HO344 := n1_; have HB := n2_; clear n0_ n1_ n2_; (try clear hb); (try clear hb2); (try clear hk); (try clear hi); (try clear ho0)))
                                      (try simp only [Act.put, List.setIfInBounds_toArray, List.set_cons_zero, List.set_cons_succ])
                                      go_cut [75] (fun v75 wc => ∃ (kq : Nat) (x75_15 : Bool), v75 = .bool x75_15 ∧ Aside0 (gangwaylaw1_LebSizes.j4 kq l0 x3_1 t338 t342 x75_15 = some r) ∧ Aside0 (kq ≤ k4) ∧ Aside0 (Kd.R (Kd.int .u8) 5 wc w.heap.size (fun k_ => some k_ ≠ (v343 : Value).ownBlock) v339 t338) ∧ Aside0 (Kd.R (Kd.int .u8) 5 wc w.heap.size (fun k_ => some k_ ≠ (v339 : Value).ownBlock) v343 t342) ∧ Aside0 (Below w.heap.size w wc))
                                      case first =>
                                        have H := HC16.out
                                        clear HC16
                                        by_cases c19 : (t338.length : Int) = x4_3
                                        · rw [if_pos c19] at H
                                          have c19b0 : ((t338.length : Int) == x4_3) = true := beq_iff_eq.mpr c19
                                          have c19b1 : ((t338.length : Int) != x4_3) = false := bne_eq_false_iff_eq.mpr c19
                                          clear c19
                                          (first | rw [c19b0] | (simp only [i64_w, i32_w]; rw [c19b0]) | skip)
                                          have H' := Aside0.mk H
                                          clear H
                                          obtain ⟨Ao20, co20, eo20⟩ := Kd.R_slice HO340.out
                                          subst eo20
                                          obtain ⟨Ao21, co21, eo21⟩ := Kd.R_slice HO344.out
                                          subst eo21
                                          go_wp2
                                          go_meet
                                          case rel => exact ⟨_, (((t342.length : Int) != x6_4)), (by first | rfl | (simp; done) | (simp [*]; done)), H', ⟨by have := HK1.out; have := HJ1.out; have := HK3.out; have := HK4.out; first | omega | exact Nat.le_refl _⟩, ⟨by (with_reducible repeat (first | apply Kd.R_alloc | apply Kd.R_drewN | apply Kd.R_drew)); exact Kd.R_mono HO340.out (fun _ hk => hk.2)⟩, ⟨by (with_reducible repeat (first | apply Kd.R_alloc | apply Kd.R_drewN | apply Kd.R_drew)); exact Kd.R_mono HO344.out (fun _ hk => hk.2)⟩, ⟨by repeat (first | (with_reducible first | exact HB.out | apply below_alloc | apply pw_below_drewN | apply below_drew1) | exact HB.out)⟩⟩
                                        · rw [if_neg c19] at H
                                          have c19b0 : ((t338.length : Int) == x4_3) = false := beq_eq_false_iff_ne.mpr c19
                                          have c19b1 : ((t338.length : Int) != x4_3) = true := bne_iff_ne.mpr c19
                                          (first | rw [c19b0] | (simp only [i64_w, i32_w]; rw [c19b0]) | skip)
                                          have H' := Aside0.mk H
                                          clear H
                                          obtain ⟨Ao22, co22, eo22⟩ := Kd.R_slice HO340.out
                                          subst eo22
                                          go_wp2
                                          go_meet
                                          case rel => exact ⟨_, (true), (by first | rfl | (simp; done) | (simp [*]; done)), H', ⟨by have := HK1.out; have := HJ1.out; have := HK3.out; have := HK4.out; first | omega | exact Nat.le_refl _⟩, ⟨by (with_reducible repeat (first | apply Kd.R_alloc | apply Kd.R_drewN | apply Kd.R_drew)); exact Kd.R_mono HO340.out (fun _ hk => hk.2)⟩, ⟨by (with_reducible repeat (first | apply Kd.R_alloc | apply Kd.R_drewN | apply Kd.R_drew)); exact Kd.R_mono HO344.out (fun _ hk => hk.2)⟩, ⟨by repeat (first | (with_reducible first | exact HB.out | apply below_alloc | apply pw_below_drewN | apply below_drew1) | exact HB.out)⟩⟩
                                      case rest =>
                                        clear HC16
                                        try clear c1
                                        try clear p2
                                        try clear c3
                                        try clear c3b0
                                        try clear p3
                                        try clear q3
                                        try clear hx3
                                        try clear c4
                                        try clear c5
                                        try clear c5b0
                                        try clear c6
                                        try clear c6b0
                                        try clear p6
                                        try clear c7
                                        try clear c7b0
                                        try clear c8
                                        try clear c8b0
                                        try clear c9
                                        try clear c9b0
                                        try clear c10
                                        try clear c10b0
                                        try clear c11
                                        try clear c11b0
                                        try clear c12
                                        try clear c12b0
                                        try clear c13
                                        try clear c13b0
                                        try clear c14
                                        try clear c16
                                        try clear c19
                                        try clear c19b0
                                        try clear c19b1
                                        try clear hx335_0
                                        try clear hx335_1
                                        try clear hx335_2
                                        try clear hx335_3
                                        try clear hx336_0
                                        try clear hx336_1
                                        try clear hx336_2
                                        try clear hx336_3
                                        try clear hx337_0
                                        try clear hx337_1
                                        try clear hx337_2
                                        try clear hx337_3
                                        try clear hx341_0
                                        try clear hx341_1
                                        try clear hx341_2
                                        try clear hx341_3
                                        try clear p2
                                        try clear p3
                                        try clear p335
                                        try clear p336
                                        try clear p337
                                        try clear p341
                                        try clear p6
                                        try clear q3
                                        try clear q335
                                        try clear q336
                                        try clear q337
                                        try clear q341
                                        obtain ⟨kq, x75_15, rfl, HA, HJ15, HO_8, HO_9, HB⟩ := hcut
                                        cases kq with
                                        | zero => exact absurd HA.out (by simp [gangwaylaw1_LebSizes.j4])
                                        | succ kj15 =>
                                          have H := HA.out
                                          clear HA
                                          simp only [gangwaylaw1_LebSizes.j4] at H
                                          by_cases c23 : x75_15 = true
                                          · subst c23
                                            have H1 : (some false) = some r := by rw [if_pos rfl] at H; exact H
                                            clear H
                                            have H := H1
                                            clear H1
                                            obtain rfl := Option.some.inj H
                                            go_wp2
                                            go_ret
                                            exact ⟨by first | rfl | (simp [errW_none, errW_some] <;> rfl) | (simp [*, errW_none, errW_some] <;> rfl), by repeat (first | (with_reducible first | exact HB.out | apply below_alloc | apply pw_below_drewN | apply below_drew1) | exact HB.out)⟩
                                          · replace c23 := Bool.eq_false_iff.mpr c23
                                            subst c23
                                            have H1 : (gangwaylaw1_LebSizes.l3 kj15 l0 x3_1 t338 t342 0) = some r := by rw [if_neg (show ¬ (false = true) by decide)] at H; exact H
                                            clear H
                                            have H := H1
                                            clear H1
                                            have H' := Aside0.mk H
                                            clear H
                                            go_wp2
                                            go_loopg [10] kj15 (fun kq v10 w' => ∃ (x10_6 : Int), v10 = .int .i64 x10_6 ∧ Aside0 (gangwaylaw1_LebSizes.l3 kq l0 x3_1 t338 t342 x10_6 = some r) ∧ Aside0 (kq ≤ kj15) ∧ Aside0 (Kd.R (Kd.int .u8) 5 w' w.heap.size (fun k_ => some k_ ≠ (v343 : Value).ownBlock) v339 t338) ∧ Aside0 (Kd.R (Kd.int .u8) 5 w' w.heap.size (fun k_ => some k_ ≠ (v339 : Value).ownBlock) v343 t342) ∧ Aside0 (Below w.heap.size w w'))
                                            case atStart => exact ⟨(0), (by first | rfl | (simp; done) | (simp [*]; done)), H', ⟨Nat.le_refl _⟩, ⟨by (with_reducible repeat (first | apply Kd.R_alloc | apply Kd.R_drewN | apply Kd.R_drew)); exact HO_8.out⟩, ⟨by (with_reducible repeat (first | apply Kd.R_alloc | apply Kd.R_drewN | apply Kd.R_drew)); exact HO_9.out⟩, ⟨by repeat (first | (with_reducible first | exact HB.out | apply below_alloc | apply pw_below_drewN | apply below_drew1) | exact HB.out)⟩⟩
                                            case round =>
                                              clear H'
                                              try clear c1
                                              try clear c2
                                              try clear p2
                                              try clear c3
                                              try clear c3b0
                                              try clear p3
                                              try clear q3
                                              try clear hx3
                                              try clear c4
                                              try clear c5
                                              try clear c5b0
                                              try clear c6
                                              try clear c6b0
                                              try clear p6
                                              try clear c7
                                              try clear c7b0
                                              try clear c8
                                              try clear c8b0
                                              try clear c9
                                              try clear c9b0
                                              try clear c10
                                              try clear c10b0
                                              try clear c11
                                              try clear c11b0
                                              try clear c12
                                              try clear c12b0
                                              try clear c13
                                              try clear c13b0
                                              try clear c14
                                              try clear c16
                                              try clear c19
                                              try clear c19b0
                                              try clear c19b1
                                              try clear c23
                                              try clear hx335_0
                                              try clear hx335_1
                                              try clear hx335_2
                                              try clear hx335_3
                                              try clear hx336_0
                                              try clear hx336_1
                                              try clear hx336_2
                                              try clear hx336_3
                                              try clear hx337_0
                                              try clear hx337_1
                                              try clear hx337_2
                                              try clear hx337_3
                                              try clear hx341_0
                                              try clear hx341_1
                                              try clear hx341_2
                                              try clear hx341_3
                                              try clear p2
                                              try clear p3
                                              try clear p335
                                              try clear p336
                                              try clear p337
                                              try clear p341
                                              try clear p6
                                              try clear q3
                                              try clear q335
                                              try clear q336
                                              try clear q337
                                              try clear q341
                                              obtain ⟨x10_6, rfl, HA, HK6, HO_8, HO_9, HB⟩ := hrel
                                              cases gk with
                                              | zero => exact absurd HA.out (by simp [gangwaylaw1_LebSizes.l3])
                                              | succ k6 =>
                                                have H := HA.out
                                                clear HA
                                                simp only [gangwaylaw1_LebSizes.l3] at H
                                                by_cases c24 : x10_6 < (t338.length : Int)
                                                · rw [if_pos c24] at H
                                                  have c24b0 : decide (x10_6 < (t338.length : Int)) = true := decide_eq_true c24
                                                  clear c24
                                                  by_cases c25 : 0 ≤ x10_6
                                                  · rw [if_pos c25] at H
                                                    have c25b0 : decide (0 ≤ x10_6) = true := decide_eq_true c25
                                                    clear c25
                                                    by_cases c26 : ((decide ((rd t338 x10_6) ≥ 128)) != (decide (x10_6 < (wrap64 ((t338.length : Int) - 1))))) = true
                                                    · rw [if_pos c26] at H
                                                      have c26b0 : ((decide ((rd t338 x10_6) ≥ 128)) != (decide (x10_6 < (wrap64 ((t338.length : Int) - 1))))) = true := c26
                                                      (try (have c26b1 : decide ((decide ((rd t338 x10_6) ≥ 128)) = (decide (x10_6 < (wrap64 ((t338.length : Int) - 1))))) = false := by simpa using c26))
                                                      (try (have c26b2 : ((decide ((rd t338 x10_6) ≥ 128)) == (decide (x10_6 < (wrap64 ((t338.length : Int) - 1))))) = false := by simpa using c26))
                                                      (try (have c26b3 : ¬ ((decide ((rd t338 x10_6) ≥ 128)) = (decide (x10_6 < (wrap64 ((t338.length : Int) - 1))))) := by simpa using c26))
                                                      clear c26
                                                      obtain rfl := Option.some.inj H
                                                      obtain ⟨Ao27, co27, eo27⟩ := Kd.R_slice HO_8.out
                                                      subst eo27
                                                      have p345 : 0 ≤ (x10_6 : Int) := of_decide_eq_true (by first | (with_reducible assumption) | assumption)
                                                      have q345 : x10_6 < (t338.length : Int) := of_decide_eq_true (by first | (with_reducible assumption) | assumption)
                                                      obtain ⟨ad345, e345, hx345_0⟩ := Kd.at_int (Kd.R_reads' HO_8.out).2.2 x10_6 p345 q345
                                                      cases e345
                                                      replace p345 := eq_true p345
                                                      replace q345 := eq_true q345
                                                      go_wp2
                                                      go_ret
                                                      exact ⟨by first | rfl | (simp [errW_none, errW_some] <;> rfl) | (simp [*, errW_none, errW_some] <;> rfl), by repeat (first | (with_reducible first | exact HB.out | apply below_alloc | apply pw_below_drewN | apply below_drew1) | exact HB.out)⟩
                                                    · rw [if_neg c26] at H
                                                      have c26b0 : ((decide ((rd t338 x10_6) ≥ 128)) != (decide (x10_6 < (wrap64 ((t338.length : Int) - 1))))) = false := by simpa using c26
                                                      (try (have c26b1 : decide ((decide ((rd t338 x10_6) ≥ 128)) = (decide (x10_6 < (wrap64 ((t338.length : Int) - 1))))) = true := by simpa using c26))
                                                      (try (have c26b2 : ((decide ((rd t338 x10_6) ≥ 128)) == (decide (x10_6 < (wrap64 ((t338.length : Int) - 1))))) = true := by simpa using c26))
                                                      clear c26
                                                      have H' := Aside0.mk H
                                                      clear H
                                                      obtain ⟨Ao28, co28, eo28⟩ := Kd.R_slice HO_8.out
                                                      subst eo28
                                                      have p345 : 0 ≤ (x10_6 : Int) := of_decide_eq_true (by first | (with_reducible assumption) | assumption)
                                                      have q345 : x10_6 < (t338.length : Int) := of_decide_eq_true (by first | (with_reducible assumption) | assumption)
                                                      obtain ⟨ad345, e345, hx345_0⟩ := Kd.at_int (Kd.R_reads' HO_8.out).2.2 x10_6 p345 q345
                                                      cases e345
                                                      replace p345 := eq_true p345
                                                      replace q345 := eq_true q345
                                                      go_wp2
                                                      go_roundg k6
                                                      case measure => have := HK1.out; have := HJ1.out; have := HK3.out; have := HK4.out; have := HJ15.out; have := HK6.out; omega
                                                      case rel => exact ⟨(wrap64 (x10_6 + 1)), (by first | rfl | (simp; done) | (simp [*]; done)), H', ⟨by have := HK1.out; have := HJ1.out; have := HK3.out; have := HK4.out; have := HJ15.out; have := HK6.out; omega⟩, ⟨by (with_reducible repeat (first | apply Kd.R_alloc | apply Kd.R_drewN | apply Kd.R_drew)); exact HO_8.out⟩, ⟨by (with_reducible repeat (first | apply Kd.R_alloc | apply Kd.R_drewN | apply Kd.R_drew)); exact HO_9.out⟩, ⟨by repeat (first | (with_reducible first | exact HB.out | apply below_alloc | apply pw_below_drewN | apply below_drew1) | exact HB.out)⟩⟩
                                                  · rw [if_neg c25] at H
                                                    exact absurd H (by simp)
                                                · rw [if_neg c24] at H
                                                  have c24b0 : decide (x10_6 < (t338.length : Int)) = false := decide_eq_false c24
                                                  clear c24
                                                  have H' := Aside0.mk H
                                                  clear H
                                                  obtain ⟨Ao29, co29, eo29⟩ := Kd.R_slice HO_8.out
                                                  subst eo29
                                                  go_wp2
                                                  go_loopg [11] k6 (fun kq v11 w' => ∃ (x11_7 : Int), v11 = .int .i64 x11_7 ∧ Aside0 (gangwaylaw1_LebSizes.l4 kq l0 x3_1 t342 x11_7 = some r) ∧ Aside0 (kq ≤ k6) ∧ Aside0 (Kd.R (Kd.int .u8) 5 w' w.heap.size (fun _ => True) v343 t342) ∧ Aside0 (Below w.heap.size w w'))
                                                  case atStart => exact ⟨(0), (by first | rfl | (simp; done) | (simp [*]; done)), H', ⟨Nat.le_refl _⟩, ⟨by (with_reducible repeat (first | apply Kd.R_alloc | apply Kd.R_drewN | apply Kd.R_drew)); exact Kd.R_mono HO_9.out (fun _ hk => trivial)⟩, ⟨by repeat (first | (with_reducible first | exact HB.out | apply below_alloc | apply pw_below_drewN | apply below_drew1) | exact HB.out)⟩⟩
                                                  case round =>
                                                    clear H'
                                                    try clear c1
                                                    try clear c2
                                                    try clear p2
                                                    try clear c3
                                                    try clear c3b0
                                                    try clear p3
                                                    try clear q3
                                                    try clear hx3
                                                    try clear c4
                                                    try clear c5
                                                    try clear c5b0
                                                    try clear c6
                                                    try clear c6b0
                                                    try clear p6
                                                    try clear c7
                                                    try clear c7b0
                                                    try clear c8
                                                    try clear c8b0
                                                    try clear c9
                                                    try clear c9b0
                                                    try clear c10
                                                    try clear c10b0
                                                    try clear c11
                                                    try clear c11b0
                                                    try clear c12
                                                    try clear c12b0
                                                    try clear c13
                                                    try clear c13b0
                                                    try clear c14
                                                    try clear c16
                                                    try clear c19
                                                    try clear c19b0
                                                    try clear c19b1
                                                    try clear c23
                                                    try clear c24
                                                    try clear c24b0
                                                    try clear c25
                                                    try clear c25b0
                                                    try clear c26
                                                    try clear c26b0
                                                    try clear c26b1
                                                    try clear c26b2
                                                    try clear hx335_0
                                                    try clear hx335_1
                                                    try clear hx335_2
                                                    try clear hx335_3
                                                    try clear hx336_0
                                                    try clear hx336_1
                                                    try clear hx336_2
                                                    try clear hx336_3
                                                    try clear hx337_0
                                                    try clear hx337_1
                                                    try clear hx337_2
                                                    try clear hx337_3
                                                    try clear hx341_0
                                                    try clear hx341_1
                                                    try clear hx341_2
                                                    try clear hx341_3
                                                    try clear hx345_0
                                                    try clear p2
                                                    try clear p3
                                                    try clear p335
                                                    try clear p336
                                                    try clear p337
                                                    try clear p341
                                                    try clear p345
                                                    try clear p6
                                                    try clear q3
                                                    try clear q335
                                                    try clear q336
                                                    try clear q337
                                                    try clear q341
                                                    try clear q345
                                                    obtain ⟨x11_7, rfl, HA, HK7, HO_9, HB⟩ := hrel
                                                    cases gk with
                                                    | zero => exact absurd HA.out (by simp [gangwaylaw1_LebSizes.l4])
                                                    | succ k7 =>
                                                      have H := HA.out
                                                      clear HA
                                                      simp only [gangwaylaw1_LebSizes.l4] at H
                                                      by_cases c30 : x11_7 < (t342.length : Int)
                                                      · rw [if_pos c30] at H
                                                        have c30b0 : decide (x11_7 < (t342.length : Int)) = true := decide_eq_true c30
                                                        clear c30
                                                        by_cases c31 : 0 ≤ x11_7
                                                        · rw [if_pos c31] at H
                                                          have c31b0 : decide (0 ≤ x11_7) = true := decide_eq_true c31
                                                          clear c31
                                                          by_cases c32 : ((decide ((rd t342 x11_7) ≥ 128)) != (decide (x11_7 < (wrap64 ((t342.length : Int) - 1))))) = true
                                                          · rw [if_pos c32] at H
                                                            have c32b0 : ((decide ((rd t342 x11_7) ≥ 128)) != (decide (x11_7 < (wrap64 ((t342.length : Int) - 1))))) = true := c32
                                                            (try (have c32b1 : decide ((decide ((rd t342 x11_7) ≥ 128)) = (decide (x11_7 < (wrap64 ((t342.length : Int) - 1))))) = false := by simpa using c32))
                                                            (try (have c32b2 : ((decide ((rd t342 x11_7) ≥ 128)) == (decide (x11_7 < (wrap64 ((t342.length : Int) - 1))))) = false := by simpa using c32))
                                                            (try (have c32b3 : ¬ ((decide ((rd t342 x11_7) ≥ 128)) = (decide (x11_7 < (wrap64 ((t342.length : Int) - 1))))) := by simpa using c32))
                                                            clear c32
                                                            obtain rfl := Option.some.inj H
                                                            obtain ⟨Ao33, co33, eo33⟩ := Kd.R_slice HO_9.out
                                                            subst eo33
                                                            have p346 : 0 ≤ (x11_7 : Int) := of_decide_eq_true (by first | (with_reducible assumption) | assumption)
                                                            have q346 : x11_7 < (t342.length : Int) := of_decide_eq_true (by first | (with_reducible assumption) | assumption)
                                                            obtain ⟨ad346, e346, hx346_0⟩ := Kd.at_int (Kd.R_reads' HO_9.out).2.2 x11_7 p346 q346
                                                            cases e346
                                                            replace p346 := eq_true p346
                                                            replace q346 := eq_true q346
                                                            go_wp2
                                                            go_ret
                                                            exact ⟨by first | rfl | (simp [errW_none, errW_some] <;> rfl) | (simp [*, errW_none, errW_some] <;> rfl), by repeat (first | (with_reducible first | exact HB.out | apply below_alloc | apply pw_below_drewN | apply below_drew1) | exact HB.out)⟩
                                                          · rw [if_neg c32] at H
                                                            have c32b0 : ((decide ((rd t342 x11_7) ≥ 128)) != (decide (x11_7 < (wrap64 ((t342.length : Int) - 1))))) = false := by simpa using c32
                                                            (try (have c32b1 : decide ((decide ((rd t342 x11_7) ≥ 128)) = (decide (x11_7 < (wrap64 ((t342.length : Int) - 1))))) = true := by simpa using c32))
                                                            (try (have c32b2 : ((decide ((rd t342 x11_7) ≥ 128)) == (decide (x11_7 < (wrap64 ((t342.length : Int) - 1))))) = true := by simpa using c32))
                                                            clear c32
                                                            have H' := Aside0.mk H
                                                            clear H
                                                            obtain ⟨Ao34, co34, eo34⟩ := Kd.R_slice HO_9.out
                                                            subst eo34
                                                            have p346 : 0 ≤ (x11_7 : Int) := of_decide_eq_true (by first | (with_reducible assumption) | assumption)
                                                            have q346 : x11_7 < (t342.length : Int) := of_decide_eq_true (by first | (with_reducible assumption) | assumption)
                                                            obtain ⟨ad346, e346, hx346_0⟩ := Kd.at_int (Kd.R_reads' HO_9.out).2.2 x11_7 p346 q346
                                                            cases e346
                                                            replace p346 := eq_true p346
                                                            replace q346 := eq_true q346
                                                            go_wp2
                                                            go_roundg k7
                                                            case measure => have := HK1.out; have := HJ1.out; have := HK3.out; have := HK4.out; have := HJ15.out; have := HK6.out; have := HK7.out; omega
                                                            case rel => exact ⟨(wrap64 (x11_7 + 1)), (by first | rfl | (simp; done) | (simp [*]; done)), H', ⟨by have := HK1.out; have := HJ1.out; have := HK3.out; have := HK4.out; have := HJ15.out; have := HK6.out; have := HK7.out; omega⟩, ⟨by (with_reducible repeat (first | apply Kd.R_alloc | apply Kd.R_drewN | apply Kd.R_drew)); exact HO_9.out⟩, ⟨by repeat (first | (with_reducible first | exact HB.out | apply below_alloc | apply pw_below_drewN | apply below_drew1) | exact HB.out)⟩⟩
                                                        · rw [if_neg c31] at H
                                                          exact absurd H (by simp)
                                                      · rw [if_neg c30] at H
                                                        have c30b0 : decide (x11_7 < (t342.length : Int)) = false := decide_eq_false c30
                                                        clear c30
                                                        have H' := Aside0.mk H
                                                        clear H
                                                        obtain ⟨Ao35, co35, eo35⟩ := Kd.R_slice HO_9.out
                                                        subst eo35
                                                        go_wp2
                                                        go_roundg k7
                                                        case measure => have := HK1.out; have := HJ1.out; have := HK3.out; have := HK4.out; have := HJ15.out; have := HK6.out; have := HK7.out; omega
                                                        case rel => exact ⟨(wrap64 (x3_1 + 1)), (by first | rfl | (simp; done) | (simp [*]; done)), H', ⟨by have := HK1.out; have := HJ1.out; have := HK3.out; have := HK4.out; have := HJ15.out; have := HK6.out; have := HK7.out; omega⟩, ⟨by repeat (first | (with_reducible first | exact HB.out | apply below_alloc | apply pw_below_drewN | apply below_drew1) | exact HB.out)⟩⟩
                                    · rw [if_neg c13] at H
                                      exact absurd H (by simp)
                                  · rw [if_neg c12] at H
                                    exact absurd H (by simp)
                        · rw [if_neg c9] at H
                          exact absurd H (by simp)
                      · rw [if_neg c8] at H
                        exact absurd H (by simp)
              · rw [if_neg c6] at H
                exact absurd H (by simp)
            · rw [if_neg c5] at H
              exact absurd H (by simp)
          · replace c4 := Bool.eq_false_iff.mpr c4
            subst c4
            have H1 : ((leb_Uint.f kj1 ([] : List Int) 32).bind fun bt347 => ((leb_Sint.f kj1 (([0] : List Int)) 65).bind fun bt353 => ((gangwaylaw1_num.f bt347.2.2).bind fun t356 => (if t356 = 100 then ((gangwaylaw1_num.f bt353.2.2).bind fun t357 => (if t357 = 100 then ((gangwaylaw1_wakes.f kj1).bind fun t358 => (some t358)) else (some false))) else (some false))))) = some r := by rw [if_neg (show ¬ (false = true) by decide)] at H; exact H
            clear H
            have H := H1
            clear H1
            replace H := Option.bind_eq_some_iff.mp H
            obtain ⟨⟨t347, t348, t349⟩, A360, H⟩ := H
            replace H : ((leb_Sint.f kj1 (([0] : List Int)) 65).bind fun bt353 => ((gangwaylaw1_num.f t349).bind fun t356 => (if t356 = 100 then ((gangwaylaw1_num.f bt353.2.2).bind fun t357 => (if t357 = 100 then ((gangwaylaw1_wakes.f kj1).bind fun t358 => (some t358)) else (some false))) else (some false)))) = some r := H
            have A36 := Aside0.mk A360
            clear A360
            obtain ⟨y350, hy350⟩ : ∃ y_ : List Int, y_ = (([0] : List Int)) := ⟨_, rfl⟩
            replace H : ((leb_Sint.f kj1 y350 65).bind fun bt353 => ((gangwaylaw1_num.f t349).bind fun t356 => (if t356 = 100 then ((gangwaylaw1_num.f bt353.2.2).bind fun t357 => (if t357 = 100 then ((gangwaylaw1_wakes.f kj1).bind fun t358 => (some t358)) else (some false))) else (some false)))) = some r := by first | (rw [hy350]; with_reducible exact H) | (have H2_ := (Option.bind_some _ _).symm.trans H; rw [hy350]; with_reducible exact H2_) | (have H2_ := (Option.bind_some _ _).symm.trans H; with_reducible exact H2_) | with_reducible exact H | (rw [hy350]; exact H) | exact H
            have Ny350 := Aside0.mk hy350
            clear hy350
            replace H := Option.bind_eq_some_iff.mp H
            obtain ⟨⟨t353, t354, t355⟩, A370, H⟩ := H
            replace H : ((gangwaylaw1_num.f t349).bind fun t356 => (if t356 = 100 then ((gangwaylaw1_num.f t355).bind fun t357 => (if t357 = 100 then ((gangwaylaw1_wakes.f kj1).bind fun t358 => (some t358)) else (some false))) else (some false))) = some r := H
            have A37 := Aside0.mk A370
            clear A370
            replace H := Option.bind_eq_some_iff.mp H
            obtain ⟨t356, A380, H⟩ := H
            replace H : (if t356 = 100 then ((gangwaylaw1_num.f t355).bind fun t357 => (if t357 = 100 then ((gangwaylaw1_wakes.f kj1).bind fun t358 => (some t358)) else (some false))) else (some false)) = some r := H
            have A38 := Aside0.mk A380
            clear A380
            by_cases c39 : t356 = 100
            · rw [if_pos c39] at H
              have c39b0 : (t356 == 100) = true := beq_iff_eq.mpr c39
              have c39b1 : (t356 != 100) = false := bne_eq_false_iff_eq.mpr c39
              clear c39
              replace H := Option.bind_eq_some_iff.mp H
              obtain ⟨t357, A400, H⟩ := H
              replace H : (if t357 = 100 then ((gangwaylaw1_wakes.f kj1).bind fun t358 => (some t358)) else (some false)) = some r := H
              have A40 := Aside0.mk A400
              clear A400
              by_cases c41 : t357 = 100
              · rw [if_pos c41] at H
                have c41b0 : (t357 == 100) = true := beq_iff_eq.mpr c41
                have c41b1 : (t357 != 100) = false := bne_eq_false_iff_eq.mpr c41
                clear c41
                replace H := Option.bind_eq_some_iff.mp H
                obtain ⟨t358, A420, H⟩ := H
                replace H : (some t358) = some r := H
                have A42 := Aside0.mk A420
                clear A420
                obtain rfl := Option.some.inj H
                go_wp2_with (first | ((with_reducible refine gate_callee (f := 9) rfl ?_); refine goesL_ (some 111) rfl rfl Try.func9 (by kernel_rfl) rfl #[.slice none 0 0, .int .i64 32] rfl (by (try simp only [List.map_toArray, List.map_cons, List.map_nil]); first | done | rfl | (simp only [List.length_drop, List.length_take]; rfl)) ?_; (refine (leb_Uint.calls kj1 _ _ ([] : List Int) 32 t347 t348 t349 _ ?side1 ?side2 A36.out).mono ?_); (case side1 => exact Kd.C_nil _ _); (case side2 => exact Nat.le_refl _); rintro e w43 ⟨rfl, hb⟩; refine ⟨_, rfl, ?_⟩; have n0_ := Aside0.mk (below_step (by repeat (first | (with_reducible first | exact HB.out | apply below_alloc | apply pw_below_drewN | apply below_drew1) | exact HB.out)) hb); clear HB; have HB := n0_; clear n0_; (try clear hb); (try clear hb2); (try clear hk); (try clear hi)) | ((with_reducible refine gate_dst (N := 116) rfl ?_); (try (refine gate_guard (by rfl) ?_; dsimp only)); refine Kd.R_lit (Kd.int .u8) _ 5 ?hg (N := 116) ?hd (xs := ([0] : List Int)) (inner := [.int .u8 0]) (ok := fun _ => True) (okp := fun _ => True) ?hr ?hp (fun _ hk => hk) trivial (Below.refl _ _) (Nat.le_refl _) (by simp) ?_; (case hd => rfl); (case hg => rfl); (case hr => first | (go_simp; done) | (go_simp; rfl)); (case hp => exact (Reps.one (show Kd.M (Kd.int .u8) _ _ _ 0 [.int .u8 0] from rfl) (Reps.none _ _))); intro v351 w44 ho45 hb hg_ hnew_; clear hg_ hnew_; (first | rw [← Ny350.out] at ho45 | (simp only [Int.reduceToNat] at ho45; rw [← Ny350.out] at ho45)); have n0_ := Aside0.mk (Kd.R_lower ho45 (below_size (by repeat (first | (with_reducible first | exact HB.out | apply below_alloc | apply pw_below_drewN | apply below_drew1) | exact HB.out)))); have n1_ := Aside0.mk (below_step (by repeat (first | (with_reducible first | exact HB.out | apply below_alloc | apply pw_below_drewN | apply below_drew1) | exact HB.out)) hb); clear HB; have HO352 := n0_; have HB := n1_; clear n0_ n1_; clear hb ho45; obtain ⟨Ao46, co46, eo46⟩ := Kd.R_slice HO352.out; subst eo46) | ((with_reducible refine gate_callee (f := 18) rfl ?_); refine goesL_ (some 117) rfl rfl Try.func18 (by kernel_rfl) rfl #[.slice Ao46 y350.length co46, .int .i64 65] rfl (by (try simp only [List.map_toArray, List.map_cons, List.map_nil]); first | done | rfl | (simp only [List.length_drop, List.length_take]; rfl)) ?_; (with_reducible refine (leb_Sint.calls kj1 _ _ y350 65 t353 t354 t355 _ ?side1 ?side2 A37.out).mono ?_); (case side1 => repeat (first | exact (Kd.R_reads' HO352.out).2.2 | (with_reducible refine Kd.C_alloc ?_ _) | (with_reducible refine Kd.C_drewN ?_ _) | (with_reducible refine Kd.C_drew ?_))); (case side2 => exact (Kd.R_reads' HO352.out).2.1); rintro e w47 ⟨rfl, hb⟩; refine ⟨_, rfl, ?_⟩; have n0_ := Aside0.mk (Kd.R_below (by (with_reducible repeat (first | apply Kd.R_alloc | apply Kd.R_drewN | apply Kd.R_drew)); exact HO352.out) hb); have n1_ := Aside0.mk (below_step (by repeat (first | (with_reducible first | exact HB.out | apply below_alloc | apply pw_below_drewN | apply below_drew1) | exact HB.out)) hb); clear HO352; clear HB; have HO352 := n0_; have HB := n1_; clear n0_ n1_; (try clear hb); (try clear hb2); (try clear hk); (try clear hi)) | ((with_reducible refine gate_callee (f := 11) rfl ?_); refine goesL_ (some 122) rfl rfl Try.func11 (by kernel_rfl) rfl #[.int .i64 t349] rfl (by (try simp only [List.map_toArray, List.map_cons, List.map_nil]); first | done | rfl | (simp only [List.length_drop, List.length_take]; rfl)) ?_; (with_reducible refine (gangwaylaw1_num.calls t349 t356 _ A38.out).mono ?_); rintro e w' ⟨rfl, ⟨nd, rfl⟩⟩; refine ⟨_, rfl, ?_⟩) | (go_at_call 11; (with_reducible refine (gangwaylaw1_num.calls t355 t357 _ A40.out).mono ?_); rintro e w' ⟨rfl, ⟨nd, rfl⟩⟩) | (go_at_call 12; (with_reducible refine (gangwaylaw1_wakes.calls kj1  t358 _ A42.out).mono ?_); rintro e w48 ⟨rfl, hb⟩; have n0_ := Aside0.mk (Kd.R_below (by (with_reducible repeat (first | apply Kd.R_alloc | apply Kd.R_drewN | apply Kd.R_drew)); exact HO352.out) hb); have n1_ := Aside0.mk (below_step (by repeat (first | (with_reducible first | exact HB.out | apply below_alloc | apply pw_below_drewN | apply below_drew1) | exact HB.out)) hb); clear HO352; clear HB; have HO352 := n0_; have HB := n1_; clear n0_ n1_; (try clear hb); (try clear hb2); (try clear hk); (try clear hi)))
                go_ret
                exact ⟨by first | rfl | (simp [errW_none, errW_some] <;> rfl) | (simp [*, errW_none, errW_some] <;> rfl), by repeat (first | (with_reducible first | exact HB.out | apply below_alloc | apply pw_below_drewN | apply below_drew1) | exact HB.out)⟩
              · rw [if_neg c41] at H
                have c41b0 : (t357 == 100) = false := beq_eq_false_iff_ne.mpr c41
                have c41b1 : (t357 != 100) = true := bne_iff_ne.mpr c41
                obtain rfl := Option.some.inj H
                go_wp2_with (first | ((with_reducible refine gate_callee (f := 9) rfl ?_); refine goesL_ (some 111) rfl rfl Try.func9 (by kernel_rfl) rfl #[.slice none 0 0, .int .i64 32] rfl (by (try simp only [List.map_toArray, List.map_cons, List.map_nil]); first | done | rfl | (simp only [List.length_drop, List.length_take]; rfl)) ?_; (refine (leb_Uint.calls kj1 _ _ ([] : List Int) 32 t347 t348 t349 _ ?side1 ?side2 A36.out).mono ?_); (case side1 => exact Kd.C_nil _ _); (case side2 => exact Nat.le_refl _); rintro e w49 ⟨rfl, hb⟩; refine ⟨_, rfl, ?_⟩; have n0_ := Aside0.mk (below_step (by repeat (first | (with_reducible first | exact HB.out | apply below_alloc | apply pw_below_drewN | apply below_drew1) | exact HB.out)) hb); clear HB; have HB := n0_; clear n0_; (try clear hb); (try clear hb2); (try clear hk); (try clear hi)) | ((with_reducible refine gate_dst (N := 116) rfl ?_); (try (refine gate_guard (by rfl) ?_; dsimp only)); refine Kd.R_lit (Kd.int .u8) _ 5 ?hg (N := 116) ?hd (xs := ([0] : List Int)) (inner := [.int .u8 0]) (ok := fun _ => True) (okp := fun _ => True) ?hr ?hp (fun _ hk => hk) trivial (Below.refl _ _) (Nat.le_refl _) (by simp) ?_; (case hd => rfl); (case hg => rfl); (case hr => first | (go_simp; done) | (go_simp; rfl)); (case hp => exact (Reps.one (show Kd.M (Kd.int .u8) _ _ _ 0 [.int .u8 0] from rfl) (Reps.none _ _))); intro v351 w50 ho51 hb hg_ hnew_; clear hg_ hnew_; (first | rw [← Ny350.out] at ho51 | (simp only [Int.reduceToNat] at ho51; rw [← Ny350.out] at ho51)); have n0_ := Aside0.mk (Kd.R_lower ho51 (below_size (by repeat (first | (with_reducible first | exact HB.out | apply below_alloc | apply pw_below_drewN | apply below_drew1) | exact HB.out)))); have n1_ := Aside0.mk (below_step (by repeat (first | (with_reducible first | exact HB.out | apply below_alloc | apply pw_below_drewN | apply below_drew1) | exact HB.out)) hb); clear HB; have HO352 := n0_; have HB := n1_; clear n0_ n1_; clear hb ho51; obtain ⟨Ao52, co52, eo52⟩ := Kd.R_slice HO352.out; subst eo52) | ((with_reducible refine gate_callee (f := 18) rfl ?_); refine goesL_ (some 117) rfl rfl Try.func18 (by kernel_rfl) rfl #[.slice Ao52 y350.length co52, .int .i64 65] rfl (by (try simp only [List.map_toArray, List.map_cons, List.map_nil]); first | done | rfl | (simp only [List.length_drop, List.length_take]; rfl)) ?_; (with_reducible refine (leb_Sint.calls kj1 _ _ y350 65 t353 t354 t355 _ ?side1 ?side2 A37.out).mono ?_); (case side1 => repeat (first | exact (Kd.R_reads' HO352.out).2.2 | (with_reducible refine Kd.C_alloc ?_ _) | (with_reducible refine Kd.C_drewN ?_ _) | (with_reducible refine Kd.C_drew ?_))); (case side2 => exact (Kd.R_reads' HO352.out).2.1); rintro e w53 ⟨rfl, hb⟩; refine ⟨_, rfl, ?_⟩; have n0_ := Aside0.mk (Kd.R_below (by (with_reducible repeat (first | apply Kd.R_alloc | apply Kd.R_drewN | apply Kd.R_drew)); exact HO352.out) hb); have n1_ := Aside0.mk (below_step (by repeat (first | (with_reducible first | exact HB.out | apply below_alloc | apply pw_below_drewN | apply below_drew1) | exact HB.out)) hb); clear HO352; clear HB; have HO352 := n0_; have HB := n1_; clear n0_ n1_; (try clear hb); (try clear hb2); (try clear hk); (try clear hi)) | ((with_reducible refine gate_callee (f := 11) rfl ?_); refine goesL_ (some 122) rfl rfl Try.func11 (by kernel_rfl) rfl #[.int .i64 t349] rfl (by (try simp only [List.map_toArray, List.map_cons, List.map_nil]); first | done | rfl | (simp only [List.length_drop, List.length_take]; rfl)) ?_; (with_reducible refine (gangwaylaw1_num.calls t349 t356 _ A38.out).mono ?_); rintro e w' ⟨rfl, ⟨nd, rfl⟩⟩; refine ⟨_, rfl, ?_⟩) | (go_at_call 11; (with_reducible refine (gangwaylaw1_num.calls t355 t357 _ A40.out).mono ?_); rintro e w' ⟨rfl, ⟨nd, rfl⟩⟩))
                go_ret
                exact ⟨by first | rfl | (simp [errW_none, errW_some] <;> rfl) | (simp [*, errW_none, errW_some] <;> rfl), by repeat (first | (with_reducible first | exact HB.out | apply below_alloc | apply pw_below_drewN | apply below_drew1) | exact HB.out)⟩
            · rw [if_neg c39] at H
              have c39b0 : (t356 == 100) = false := beq_eq_false_iff_ne.mpr c39
              have c39b1 : (t356 != 100) = true := bne_iff_ne.mpr c39
              obtain rfl := Option.some.inj H
              go_wp2_with (first | ((with_reducible refine gate_callee (f := 9) rfl ?_); refine goesL_ (some 111) rfl rfl Try.func9 (by kernel_rfl) rfl #[.slice none 0 0, .int .i64 32] rfl (by (try simp only [List.map_toArray, List.map_cons, List.map_nil]); first | done | rfl | (simp only [List.length_drop, List.length_take]; rfl)) ?_; (refine (leb_Uint.calls kj1 _ _ ([] : List Int) 32 t347 t348 t349 _ ?side1 ?side2 A36.out).mono ?_); (case side1 => exact Kd.C_nil _ _); (case side2 => exact Nat.le_refl _); rintro e w54 ⟨rfl, hb⟩; refine ⟨_, rfl, ?_⟩; have n0_ := Aside0.mk (below_step (by repeat (first | (with_reducible first | exact HB.out | apply below_alloc | apply pw_below_drewN | apply below_drew1) | exact HB.out)) hb); clear HB; have HB := n0_; clear n0_; (try clear hb); (try clear hb2); (try clear hk); (try clear hi)) | ((with_reducible refine gate_dst (N := 116) rfl ?_); (try (refine gate_guard (by rfl) ?_; dsimp only)); refine Kd.R_lit (Kd.int .u8) _ 5 ?hg (N := 116) ?hd (xs := ([0] : List Int)) (inner := [.int .u8 0]) (ok := fun _ => True) (okp := fun _ => True) ?hr ?hp (fun _ hk => hk) trivial (Below.refl _ _) (Nat.le_refl _) (by simp) ?_; (case hd => rfl); (case hg => rfl); (case hr => first | (go_simp; done) | (go_simp; rfl)); (case hp => exact (Reps.one (show Kd.M (Kd.int .u8) _ _ _ 0 [.int .u8 0] from rfl) (Reps.none _ _))); intro v351 w55 ho56 hb hg_ hnew_; clear hg_ hnew_; (first | rw [← Ny350.out] at ho56 | (simp only [Int.reduceToNat] at ho56; rw [← Ny350.out] at ho56)); have n0_ := Aside0.mk (Kd.R_lower ho56 (below_size (by repeat (first | (with_reducible first | exact HB.out | apply below_alloc | apply pw_below_drewN | apply below_drew1) | exact HB.out)))); have n1_ := Aside0.mk (below_step (by repeat (first | (with_reducible first | exact HB.out | apply below_alloc | apply pw_below_drewN | apply below_drew1) | exact HB.out)) hb); clear HB; have HO352 := n0_; have HB := n1_; clear n0_ n1_; clear hb ho56; obtain ⟨Ao57, co57, eo57⟩ := Kd.R_slice HO352.out; subst eo57) | ((with_reducible refine gate_callee (f := 18) rfl ?_); refine goesL_ (some 117) rfl rfl Try.func18 (by kernel_rfl) rfl #[.slice Ao57 y350.length co57, .int .i64 65] rfl (by (try simp only [List.map_toArray, List.map_cons, List.map_nil]); first | done | rfl | (simp only [List.length_drop, List.length_take]; rfl)) ?_; (with_reducible refine (leb_Sint.calls kj1 _ _ y350 65 t353 t354 t355 _ ?side1 ?side2 A37.out).mono ?_); (case side1 => repeat (first | exact (Kd.R_reads' HO352.out).2.2 | (with_reducible refine Kd.C_alloc ?_ _) | (with_reducible refine Kd.C_drewN ?_ _) | (with_reducible refine Kd.C_drew ?_))); (case side2 => exact (Kd.R_reads' HO352.out).2.1); rintro e w58 ⟨rfl, hb⟩; refine ⟨_, rfl, ?_⟩; have n0_ := Aside0.mk (Kd.R_below (by (with_reducible repeat (first | apply Kd.R_alloc | apply Kd.R_drewN | apply Kd.R_drew)); exact HO352.out) hb); have n1_ := Aside0.mk (below_step (by repeat (first | (with_reducible first | exact HB.out | apply below_alloc | apply pw_below_drewN | apply below_drew1) | exact HB.out)) hb); clear HO352; clear HB; have HO352 := n0_; have HB := n1_; clear n0_ n1_; (try clear hb); (try clear hb2); (try clear hk); (try clear hi)) | ((with_reducible refine gate_callee (f := 11) rfl ?_); refine goesL_ (some 122) rfl rfl Try.func11 (by kernel_rfl) rfl #[.int .i64 t349] rfl (by (try simp only [List.map_toArray, List.map_cons, List.map_nil]); first | done | rfl | (simp only [List.length_drop, List.length_take]; rfl)) ?_; (with_reducible refine (gangwaylaw1_num.calls t349 t356 _ A38.out).mono ?_); rintro e w' ⟨rfl, ⟨nd, rfl⟩⟩; refine ⟨_, rfl, ?_⟩))
              go_ret
              exact ⟨by first | rfl | (simp [errW_none, errW_some] <;> rfl) | (simp [*, errW_none, errW_some] <;> rfl), by repeat (first | (with_reducible first | exact HB.out | apply below_alloc | apply pw_below_drewN | apply below_drew1) | exact HB.out)⟩

/-- THE ONE PURE STATEMENT of gangwaylaw1_LebSizes: yours. -/
def gangwaylaw1_LebSizes.Pure : Prop := ∀ (x0 : List (S26)), (x0.length * 48 ≤ 140737488351232 ∧ ∀ y359 ∈ x0, okT26 y359) → ∃ k, gangwaylaw1_LebSizes.f k x0 = some true
theorem gangwaylaw1_LebSizes.walk (P : gangwaylaw1_LebSizes.Pure) (w : World) (x0 : List (S26)) (A0 : Option Addr) (c0 : Nat) (hr0 : Kd.C k26 w A0 x0.length x0) (hc0 : x0.length ≤ c0) (hok0 : (x0.length * 48 ≤ 140737488351232 ∧ ∀ y360 ∈ x0, okT26 y360)) :
    Calls Try.prog 8 #[.slice A0 x0.length c0] w fun e w' => e = .returned (.bool true) ∧ Below w.heap.size w w' := by
  obtain ⟨k, h⟩ := P x0 hok0
  refine (gangwaylaw1_LebSizes.calls k _ _ x0 true w hr0 hc0 h).mono ?_
  rintro e w' ⟨rfl, hd⟩
  exact ⟨rfl, hd⟩

end Go.Proofs.Ytgmlnigelbplnaa.PAll
