/- Printed by a copy of the printer that was turned for this claim: functions as plain Lean functions, with proofs that their calls come to these; or words that such proofs use. -/
import Derived.Test.YtlggampmmlkkeaaPAllx0
import Derived.Test.YtlggampmmlkkeaaPAllx1
import Derived.Test.YtlggampmmlkkeaaPAllx2
import Derived.Test.YtlggampmmlkkeaaPAllx3
import Derived.Test.YtlggampmmlkkeaaPAllx4
import Derived.Test.YtlggampmmlkkeaaPAllx5
namespace Go.Proofs.Ytlggampmmlkkeaa.PAll
open Go.RowKit Go.Proofs.YtlggampmmlkkeaaW.PrintWords Go.Proofs.YtlggampmmlkkeaaW.PrintLast Go.Proofs.YtlggampmmlkkeaaW.PrintMore
attribute [local go_sem] max2_int min2_int max_two min_two max_three min_three max_four min_four   -- for this text's walks alone
set_option linter.unusedVariables false
set_option linter.unusedSimpArgs false

/-! ### gangwaylaw2_UtfBack: function 5 -/
mutual
def gangwaylaw2_UtfBack.l0 : Nat → List (S27) → Int → Option (Bool)
  | 0, _, _ => none
  | k + 1, x0, x3 => if x3 < (x0.length : Int) then (gangwaylaw2_UtfBack.j1 k x0 x3 (decide (x3 < 20))) else (gangwaylaw2_UtfBack.j1 k x0 x3 false)
def gangwaylaw2_UtfBack.j1 : Nat → List (S27) → Int → Bool → Option (Bool)
  | 0, _, _, _ => none
  | k + 1, x0, x3, x19 => if x19 = true then (if 0 ≤ x3 then (if x3 < (x0.length : Int) then ((gangwaylaw2_heavy.f ((rd_T27 x0 x3).f0) ((rd_T27 x0 x3).f1)).bind fun t277 => (if t277 = true then (some true) else ((utf_Bytes.f k ((rd_T27 x0 x3).f1)).bind fun bt279 => ((gangwaylaw2_num.f bt279.2).bind fun t283 => (if t283 = 0 then ((utf_Points.f k bt279.1).bind fun bt284 => ((gangwaylaw2_num.f bt284.2).bind fun t288 => (if t288 = 0 then ((gangwayref0_EqPoints.f k bt284.1 ((rd_T27 x0 x3).f1)).bind fun t290 => (gangwaylaw2_UtfBack.j2 k x0 x3 bt279.1 bt279.2 (!t290))) else (gangwaylaw2_UtfBack.j2 k x0 x3 bt279.1 bt279.2 true)))) else (gangwaylaw2_UtfBack.j3 k x0 x3 bt279.1 bt279.2)))))) else (none)) else (none)) else ((gangwaylaw2_wakes.f k).bind fun t275 => (some t275))
def gangwaylaw2_UtfBack.j3 : Nat → List (S27) → Int → List Int → Int → Option (Bool)
  | 0, _, _, _, _ => none
  | k + 1, x0, x3, x4, x5 => if 0 ≤ x3 then (if x3 < (x0.length : Int) then ((utf_Points.f k ((rd_T27 x0 x3).f0)).bind fun bt299 => ((gangwaylaw2_num.f bt299.2).bind fun t303 => (if t303 = 0 then ((utf_Bytes.f k bt299.1).bind fun bt304 => ((gangwaylaw2_num.f bt304.2).bind fun t308 => (if t308 = 0 then ((gangwayref0_EqBytes.f k bt304.1 ((rd_T27 x0 x3).f0)).bind fun t310 => (gangwaylaw2_UtfBack.j4 k x0 x3 x4 x5 bt304.1 (!t310))) else (gangwaylaw2_UtfBack.j4 k x0 x3 x4 x5 bt304.1 true)))) else (gangwaylaw2_UtfBack.l0 k x0 (wrap64 (x3 + 1)))))) else (none)) else (none)
def gangwaylaw2_UtfBack.j4 : Nat → List (S27) → Int → List Int → Int → List Int → Bool → Option (Bool)
  | 0, _, _, _, _, _, _ => none
  | k + 1, x0, x3, x4, x5, x10, x108 => if x108 = true then (some false) else ((gangwaylaw2_num.f x5).bind fun t311 => (if t311 = 0 then (if x10.length + x4.length < 140737488355328 then ((utf_Check.f k (x10 ++ x4)).bind fun t315 => ((gangwaylaw2_num.f t315).bind fun t316 => (if t316 = 0 then (gangwaylaw2_UtfBack.l0 k x0 (wrap64 (x3 + 1))) else (some false)))) else (none)) else (gangwaylaw2_UtfBack.l0 k x0 (wrap64 (x3 + 1)))))
def gangwaylaw2_UtfBack.j2 : Nat → List (S27) → Int → List Int → Int → Bool → Option (Bool)
  | 0, _, _, _, _, _ => none
  | k + 1, x0, x3, x4, x5, x56 => if x56 = true then (some false) else (if (x4.length : Int) > 0 then (if 0 ≤ (wrap64 ((x4.length : Int) - 1)) then (if (wrap64 ((x4.length : Int) - 1)) < (x4.length : Int) then (if (rd x4 (wrap64 ((x4.length : Int) - 1))) ≥ 128 then (if (wrap64 ((x4.length : Int) - 1)) ≤ (x4.length : Int) then ((utf_Check.f k (x4.take ((wrap64 ((x4.length : Int) - 1)) : Int).toNat)).bind fun t296 => ((gangwaylaw2_num.f t296).bind fun t297 => (if t297 = 100 then (gangwaylaw2_UtfBack.j3 k x0 x3 x4 x5) else (some false)))) else (none)) else (gangwaylaw2_UtfBack.j3 k x0 x3 x4 x5)) else (none)) else (none)) else (gangwaylaw2_UtfBack.j3 k x0 x3 x4 x5))
end
def gangwaylaw2_UtfBack.f (k : Nat) (l0 : List (S27)) : Option (Bool) := gangwaylaw2_UtfBack.l0 k l0 0
theorem gangwaylaw2_UtfBack.mono_l : ∀ k, (∀ y0 y1, LeO (gangwaylaw2_UtfBack.l0 k y0 y1) (gangwaylaw2_UtfBack.l0 (k + 1) y0 y1)) ∧ (∀ y0 y1 y2, LeO (gangwaylaw2_UtfBack.j1 k y0 y1 y2) (gangwaylaw2_UtfBack.j1 (k + 1) y0 y1 y2)) ∧ (∀ y0 y1 y2 y3, LeO (gangwaylaw2_UtfBack.j3 k y0 y1 y2 y3) (gangwaylaw2_UtfBack.j3 (k + 1) y0 y1 y2 y3)) ∧ (∀ y0 y1 y2 y3 y4 y5, LeO (gangwaylaw2_UtfBack.j4 k y0 y1 y2 y3 y4 y5) (gangwaylaw2_UtfBack.j4 (k + 1) y0 y1 y2 y3 y4 y5)) ∧ (∀ y0 y1 y2 y3 y4, LeO (gangwaylaw2_UtfBack.j2 k y0 y1 y2 y3 y4) (gangwaylaw2_UtfBack.j2 (k + 1) y0 y1 y2 y3 y4))
  | 0 => ⟨fun _ _ r h => by simp [gangwaylaw2_UtfBack.l0] at h, fun _ _ _ r h => by simp [gangwaylaw2_UtfBack.j1] at h, fun _ _ _ _ r h => by simp [gangwaylaw2_UtfBack.j3] at h, fun _ _ _ _ _ _ r h => by simp [gangwaylaw2_UtfBack.j4] at h, fun _ _ _ _ _ r h => by simp [gangwaylaw2_UtfBack.j2] at h⟩
  | k + 1 => by
    obtain ⟨ih0, ih1, ih2, ih3, ih4⟩ := gangwaylaw2_UtfBack.mono_l k
    refine ⟨?_, ?_, ?_, ?_, ?_⟩
    · intro y0 y1
      unfold gangwaylaw2_UtfBack.l0
      repeat' first
      | (with_reducible exact ih0 _ _)
      | (with_reducible exact ih1 _ _ _)
      | (with_reducible exact ih2 _ _ _ _)
      | (with_reducible exact ih3 _ _ _ _ _ _)
      | (with_reducible exact ih4 _ _ _ _ _)
      | (with_reducible exact gangwaylaw2_wakes.mono _)
      | (with_reducible exact gangwayref0_EqBytes.mono _ _ _)
      | (with_reducible exact gangwayref0_EqPoints.mono _ _ _)
      | (with_reducible exact utf_Bytes.mono _ _)
      | (with_reducible exact utf_Check.mono _ _)
      | (with_reducible exact utf_Points.mono _ _)
      | (with_reducible exact LeO.refl _)
      | (with_reducible exact LeO.none _)
      | (with_reducible refine LeO.ite ?_ ?_)
      | (with_reducible refine LeO.bind ?_ (fun _ => ?_))
      | exact ih0 _ _
      | exact ih1 _ _ _
      | exact ih2 _ _ _ _
      | exact ih3 _ _ _ _ _ _
      | exact ih4 _ _ _ _ _
      | exact gangwaylaw2_wakes.mono _
      | exact gangwayref0_EqBytes.mono _ _ _
      | exact gangwayref0_EqPoints.mono _ _ _
      | exact utf_Bytes.mono _ _
      | exact utf_Check.mono _ _
      | exact utf_Points.mono _ _
      | exact LeO.none _
      | refine LeO.ite ?_ ?_
      | refine LeO.bind ?_ (fun _ => ?_)
    · intro y0 y1 y2
      unfold gangwaylaw2_UtfBack.j1
      repeat' first
      | (with_reducible exact ih0 _ _)
      | (with_reducible exact ih1 _ _ _)
      | (with_reducible exact ih2 _ _ _ _)
      | (with_reducible exact ih3 _ _ _ _ _ _)
      | (with_reducible exact ih4 _ _ _ _ _)
      | (with_reducible exact gangwaylaw2_wakes.mono _)
      | (with_reducible exact gangwayref0_EqBytes.mono _ _ _)
      | (with_reducible exact gangwayref0_EqPoints.mono _ _ _)
      | (with_reducible exact utf_Bytes.mono _ _)
      | (with_reducible exact utf_Check.mono _ _)
      | (with_reducible exact utf_Points.mono _ _)
      | (with_reducible exact LeO.refl _)
      | (with_reducible exact LeO.none _)
      | (with_reducible refine LeO.ite ?_ ?_)
      | (with_reducible refine LeO.bind ?_ (fun _ => ?_))
      | exact ih0 _ _
      | exact ih1 _ _ _
      | exact ih2 _ _ _ _
      | exact ih3 _ _ _ _ _ _
      | exact ih4 _ _ _ _ _
      | exact gangwaylaw2_wakes.mono _
      | exact gangwayref0_EqBytes.mono _ _ _
      | exact gangwayref0_EqPoints.mono _ _ _
      | exact utf_Bytes.mono _ _
      | exact utf_Check.mono _ _
      | exact utf_Points.mono _ _
      | exact LeO.none _
      | refine LeO.ite ?_ ?_
      | refine LeO.bind ?_ (fun _ => ?_)
    · intro y0 y1 y2 y3
      unfold gangwaylaw2_UtfBack.j3
      repeat' first
      | (with_reducible exact ih0 _ _)
      | (with_reducible exact ih1 _ _ _)
      | (with_reducible exact ih2 _ _ _ _)
      | (with_reducible exact ih3 _ _ _ _ _ _)
      | (with_reducible exact ih4 _ _ _ _ _)
      | (with_reducible exact gangwaylaw2_wakes.mono _)
      | (with_reducible exact gangwayref0_EqBytes.mono _ _ _)
      | (with_reducible exact gangwayref0_EqPoints.mono _ _ _)
      | (with_reducible exact utf_Bytes.mono _ _)
      | (with_reducible exact utf_Check.mono _ _)
      | (with_reducible exact utf_Points.mono _ _)
      | (with_reducible exact LeO.refl _)
      | (with_reducible exact LeO.none _)
      | (with_reducible refine LeO.ite ?_ ?_)
      | (with_reducible refine LeO.bind ?_ (fun _ => ?_))
      | exact ih0 _ _
      | exact ih1 _ _ _
      | exact ih2 _ _ _ _
      | exact ih3 _ _ _ _ _ _
      | exact ih4 _ _ _ _ _
      | exact gangwaylaw2_wakes.mono _
      | exact gangwayref0_EqBytes.mono _ _ _
      | exact gangwayref0_EqPoints.mono _ _ _
      | exact utf_Bytes.mono _ _
      | exact utf_Check.mono _ _
      | exact utf_Points.mono _ _
      | exact LeO.none _
      | refine LeO.ite ?_ ?_
      | refine LeO.bind ?_ (fun _ => ?_)
    · intro y0 y1 y2 y3 y4 y5
      unfold gangwaylaw2_UtfBack.j4
      repeat' first
      | (with_reducible exact ih0 _ _)
      | (with_reducible exact ih1 _ _ _)
      | (with_reducible exact ih2 _ _ _ _)
      | (with_reducible exact ih3 _ _ _ _ _ _)
      | (with_reducible exact ih4 _ _ _ _ _)
      | (with_reducible exact gangwaylaw2_wakes.mono _)
      | (with_reducible exact gangwayref0_EqBytes.mono _ _ _)
      | (with_reducible exact gangwayref0_EqPoints.mono _ _ _)
      | (with_reducible exact utf_Bytes.mono _ _)
      | (with_reducible exact utf_Check.mono _ _)
      | (with_reducible exact utf_Points.mono _ _)
      | (with_reducible exact LeO.refl _)
      | (with_reducible exact LeO.none _)
      | (with_reducible refine LeO.ite ?_ ?_)
      | (with_reducible refine LeO.bind ?_ (fun _ => ?_))
      | exact ih0 _ _
      | exact ih1 _ _ _
      | exact ih2 _ _ _ _
      | exact ih3 _ _ _ _ _ _
      | exact ih4 _ _ _ _ _
      | exact gangwaylaw2_wakes.mono _
      | exact gangwayref0_EqBytes.mono _ _ _
      | exact gangwayref0_EqPoints.mono _ _ _
      | exact utf_Bytes.mono _ _
      | exact utf_Check.mono _ _
      | exact utf_Points.mono _ _
      | exact LeO.none _
      | refine LeO.ite ?_ ?_
      | refine LeO.bind ?_ (fun _ => ?_)
    · intro y0 y1 y2 y3 y4
      unfold gangwaylaw2_UtfBack.j2
      repeat' first
      | (with_reducible exact ih0 _ _)
      | (with_reducible exact ih1 _ _ _)
      | (with_reducible exact ih2 _ _ _ _)
      | (with_reducible exact ih3 _ _ _ _ _ _)
      | (with_reducible exact ih4 _ _ _ _ _)
      | (with_reducible exact gangwaylaw2_wakes.mono _)
      | (with_reducible exact gangwayref0_EqBytes.mono _ _ _)
      | (with_reducible exact gangwayref0_EqPoints.mono _ _ _)
      | (with_reducible exact utf_Bytes.mono _ _)
      | (with_reducible exact utf_Check.mono _ _)
      | (with_reducible exact utf_Points.mono _ _)
      | (with_reducible exact LeO.refl _)
      | (with_reducible exact LeO.none _)
      | (with_reducible refine LeO.ite ?_ ?_)
      | (with_reducible refine LeO.bind ?_ (fun _ => ?_))
      | exact ih0 _ _
      | exact ih1 _ _ _
      | exact ih2 _ _ _ _
      | exact ih3 _ _ _ _ _ _
      | exact ih4 _ _ _ _ _
      | exact gangwaylaw2_wakes.mono _
      | exact gangwayref0_EqBytes.mono _ _ _
      | exact gangwayref0_EqPoints.mono _ _ _
      | exact utf_Bytes.mono _ _
      | exact utf_Check.mono _ _
      | exact utf_Points.mono _ _
      | exact LeO.none _
      | refine LeO.ite ?_ ?_
      | refine LeO.bind ?_ (fun _ => ?_)
theorem gangwaylaw2_UtfBack.mono : ∀ a0 k, LeO (gangwaylaw2_UtfBack.f k a0) (gangwaylaw2_UtfBack.f (k + 1) a0) := by
  intro a0 k
  obtain ⟨ih0, ih1, ih2, ih3, ih4⟩ := gangwaylaw2_UtfBack.mono_l k
  unfold gangwaylaw2_UtfBack.f
  repeat' first
      | (with_reducible exact ih0 _ _)
      | (with_reducible exact ih1 _ _ _)
      | (with_reducible exact ih2 _ _ _ _)
      | (with_reducible exact ih3 _ _ _ _ _ _)
      | (with_reducible exact ih4 _ _ _ _ _)
      | (with_reducible exact gangwaylaw2_wakes.mono _)
      | (with_reducible exact gangwayref0_EqBytes.mono _ _ _)
      | (with_reducible exact gangwayref0_EqPoints.mono _ _ _)
      | (with_reducible exact utf_Bytes.mono _ _)
      | (with_reducible exact utf_Check.mono _ _)
      | (with_reducible exact utf_Points.mono _ _)
      | (with_reducible exact LeO.refl _)
      | (with_reducible exact LeO.none _)
      | (with_reducible refine LeO.ite ?_ ?_)
      | (with_reducible refine LeO.bind ?_ (fun _ => ?_))
      | exact ih0 _ _
      | exact ih1 _ _ _
      | exact ih2 _ _ _ _
      | exact ih3 _ _ _ _ _ _
      | exact ih4 _ _ _ _ _
      | exact gangwaylaw2_wakes.mono _
      | exact gangwayref0_EqBytes.mono _ _ _
      | exact gangwayref0_EqPoints.mono _ _ _
      | exact utf_Bytes.mono _ _
      | exact utf_Check.mono _ _
      | exact utf_Points.mono _ _
      | exact LeO.none _
      | refine LeO.ite ?_ ?_
      | refine LeO.bind ?_ (fun _ => ?_)
set_option maxHeartbeats 8000000 in
set_option maxRecDepth 100000 in
theorem gangwaylaw2_UtfBack.calls (k : Nat) (A0 : Option Addr) (c0 : Nat) (l0 : List (S27)) (r : Bool) (w : World) (hr0 : Kd.C k27 w A0 l0.length l0) (hc0 : l0.length ≤ c0) (h : gangwaylaw2_UtfBack.f k l0 = some r) :
    Calls Try.prog 5 #[.slice A0 l0.length c0] w fun e w' => e = .returned (.bool r) ∧ Below w.heap.size w w' := by
  have hu27 := Try.underlying27
  have HR0 := Aside0.mk hr0
  have HC0 := Aside0.mk hc0
  clear hr0 hc0
  have HB := Aside0.mk (Below.refl w.heap.size w)
  have H : (gangwaylaw2_UtfBack.l0 k l0 0) = some r := h
  clear h
  have H' := Aside0.mk H
  clear H
  go_enter Try.func5, Try.ntmps5
  go_wp2
  go_loopg [3] k (fun kq v3 w' => ∃ (x3_1 : Int), v3 = .int .i64 x3_1 ∧ Aside0 (gangwaylaw2_UtfBack.l0 kq l0 x3_1 = some r) ∧ Aside0 (kq ≤ k) ∧ Aside0 (Below w.heap.size w w'))
  case atStart => exact ⟨(0), (by first | rfl | (simp; done) | (simp [*]; done)), H', ⟨Nat.le_refl _⟩, ⟨by repeat (first | (with_reducible first | exact HB.out | apply below_alloc | apply pw_below_drewN | apply below_drew1) | exact HB.out)⟩⟩
  case round =>
    clear H'
    obtain ⟨x3_1, rfl, HA, HK1, HB⟩ := hrel
    cases gk with
    | zero => exact absurd HA.out (by simp [gangwaylaw2_UtfBack.l0])
    | succ k1 =>
      have H := HA.out
      clear HA
      simp only [gangwaylaw2_UtfBack.l0] at H
      have HC2 := Aside0.mk H
      clear H
      go_upto_region 2 with (fail)
      go_cut [19] (fun v19 wc => ∃ (kq : Nat) (x19_1 : Bool), v19 = .bool x19_1 ∧ Aside0 (gangwaylaw2_UtfBack.j1 kq l0 x3_1 x19_1 = some r) ∧ Aside0 (kq ≤ k1) ∧ Aside0 (Below w.heap.size w wc))
      case first =>
        have H := HC2.out
        clear HC2
        by_cases c3 : x3_1 < (l0.length : Int)
        · rw [if_pos c3] at H
          have c3b0 : decide (x3_1 < (l0.length : Int)) = true := decide_eq_true c3
          clear c3
          (first | rw [c3b0] | (simp only [i64_w, i32_w]; rw [c3b0]) | skip)
          have H' := Aside0.mk H
          clear H
          go_wp2
          go_meet
          case rel => exact ⟨_, (decide (x3_1 < 20)), (by first | rfl | (simp; done) | (simp [*]; done)), H', ⟨by have := HK1.out; first | omega | exact Nat.le_refl _⟩, ⟨by repeat (first | (with_reducible first | exact HB.out | apply below_alloc | apply pw_below_drewN | apply below_drew1) | exact HB.out)⟩⟩
        · rw [if_neg c3] at H
          have c3b0 : decide (x3_1 < (l0.length : Int)) = false := decide_eq_false c3
          clear c3
          (first | rw [c3b0] | (simp only [i64_w, i32_w]; rw [c3b0]) | skip)
          have H' := Aside0.mk H
          clear H
          go_wp2
          go_meet
          case rel => exact ⟨_, (false), (by first | rfl | (simp; done) | (simp [*]; done)), H', ⟨by have := HK1.out; first | omega | exact Nat.le_refl _⟩, ⟨by repeat (first | (with_reducible first | exact HB.out | apply below_alloc | apply pw_below_drewN | apply below_drew1) | exact HB.out)⟩⟩
      case rest =>
        clear HC2
        try clear p2
        try clear c3
        try clear c3b0
        obtain ⟨kq, x19_1, rfl, HA, HJ1, HB⟩ := hcut
        cases kq with
        | zero => exact absurd HA.out (by simp [gangwaylaw2_UtfBack.j1])
        | succ kj1 =>
          have H := HA.out
          clear HA
          simp only [gangwaylaw2_UtfBack.j1] at H
          by_cases c4 : x19_1 = true
          · subst c4
            have H1 : (if 0 ≤ x3_1 then (if x3_1 < (l0.length : Int) then ((gangwaylaw2_heavy.f ((rd_T27 l0 x3_1).f0) ((rd_T27 l0 x3_1).f1)).bind fun t277 => (if t277 = true then (some true) else ((utf_Bytes.f kj1 ((rd_T27 l0 x3_1).f1)).bind fun bt279 => ((gangwaylaw2_num.f bt279.2).bind fun t283 => (if t283 = 0 then ((utf_Points.f kj1 bt279.1).bind fun bt284 => ((gangwaylaw2_num.f bt284.2).bind fun t288 => (if t288 = 0 then ((gangwayref0_EqPoints.f kj1 bt284.1 ((rd_T27 l0 x3_1).f1)).bind fun t290 => (gangwaylaw2_UtfBack.j2 kj1 l0 x3_1 bt279.1 bt279.2 (!t290))) else (gangwaylaw2_UtfBack.j2 kj1 l0 x3_1 bt279.1 bt279.2 true)))) else (gangwaylaw2_UtfBack.j3 kj1 l0 x3_1 bt279.1 bt279.2)))))) else (none)) else (none)) = some r := by rw [if_pos rfl] at H; exact H
            clear H
            have H := H1
            clear H1
            by_cases c5 : 0 ≤ x3_1
            · rw [if_pos c5] at H
              have c5b0 : decide (0 ≤ x3_1) = true := decide_eq_true c5
              clear c5
              by_cases c6 : x3_1 < (l0.length : Int)
              · rw [if_pos c6] at H
                have c6b0 : decide (x3_1 < (l0.length : Int)) = true := decide_eq_true c6
                clear c6
                replace H := Option.bind_eq_some_iff.mp H
                obtain ⟨t277, A70, H⟩ := H
                replace H : (if t277 = true then (some true) else ((utf_Bytes.f kj1 ((rd_T27 l0 x3_1).f1)).bind fun bt279 => ((gangwaylaw2_num.f bt279.2).bind fun t283 => (if t283 = 0 then ((utf_Points.f kj1 bt279.1).bind fun bt284 => ((gangwaylaw2_num.f bt284.2).bind fun t288 => (if t288 = 0 then ((gangwayref0_EqPoints.f kj1 bt284.1 ((rd_T27 l0 x3_1).f1)).bind fun t290 => (gangwaylaw2_UtfBack.j2 kj1 l0 x3_1 bt279.1 bt279.2 (!t290))) else (gangwaylaw2_UtfBack.j2 kj1 l0 x3_1 bt279.1 bt279.2 true)))) else (gangwaylaw2_UtfBack.j3 kj1 l0 x3_1 bt279.1 bt279.2))))) = some r := H
                have A7 := Aside0.mk A70
                clear A70
                by_cases c8 : t277 = true
                · subst c8
                  have H1 : (some true) = some r := by rw [if_pos rfl] at H; exact H
                  clear H
                  have H := H1
                  clear H1
                  obtain rfl := Option.some.inj H
                  have p276 : 0 ≤ (x3_1 : Int) := of_decide_eq_true (by first | (with_reducible assumption) | assumption)
                  have q276 : x3_1 < (l0.length : Int) := of_decide_eq_true (by first | (with_reducible assumption) | assumption)
                  obtain ⟨ad276, A276_0, c276_0, A276_1, c276_1, e276, hx276_0, hx276_1, hl276_0, hi276_0, hl276_1, hi276_1⟩ := at_T27 HR0.out x3_1 p276 q276
                  cases e276
                  replace hx276_0 := (HB.out.cell (World.block_lt_of_cell? w _ hx276_0)).trans hx276_0
                  replace hx276_1 := (HB.out.cell (World.block_lt_of_cell? w _ hx276_1)).trans hx276_1
                  have HR276_0 := Aside0.mk hi276_0
                  have HC276_0 := Aside0.mk hl276_0
                  clear hi276_0 hl276_0
                  have HR276_1 := Aside0.mk hi276_1
                  have HC276_1 := Aside0.mk hl276_1
                  clear hi276_1 hl276_1
                  replace p276 := eq_true p276
                  replace q276 := eq_true q276
                  go_wp2_with (first | ((with_reducible refine gate_callee (f := 7) rfl ?_); refine goesL_ (some 26) rfl rfl Try.func7 (by kernel_rfl) rfl #[.agg #[.slice A276_0 ((rd_T27 l0 x3_1).f0).length c276_0, .slice A276_1 ((rd_T27 l0 x3_1).f1).length c276_1]] rfl (by (try simp only [List.map_toArray, List.map_cons, List.map_nil]); first | done | rfl | (simp only [List.length_drop, List.length_take]; rfl)) ?_; (with_reducible refine (gangwaylaw2_heavy.calls _ _ ((rd_T27 l0 x3_1).f0) _ _ ((rd_T27 l0 x3_1).f1) true _ ?side1 ?side2 ?side3 ?side4 A7.out).mono ?_); (case side1 => repeat (first | exact (Kd.C_below HR276_0.out HB.out) | (with_reducible refine Kd.C_alloc ?_ _) | (with_reducible refine Kd.C_drewN ?_ _) | (with_reducible refine Kd.C_drew ?_))); (case side2 => exact HC276_0.out); (case side3 => repeat (first | exact (Kd.C_below HR276_1.out HB.out) | (with_reducible refine Kd.C_alloc ?_ _) | (with_reducible refine Kd.C_drewN ?_ _) | (with_reducible refine Kd.C_drew ?_))); (case side4 => exact HC276_1.out); rintro e w9 ⟨rfl, hb⟩; refine ⟨_, rfl, ?_⟩; have n0_ := Aside0.mk (below_step (by repeat (first | (with_reducible first | exact HB.out | apply below_alloc | apply pw_below_drewN | apply below_drew1) | exact HB.out)) hb); clear HB; have HB := n0_; clear n0_; (try clear hb); (try clear hb2); (try clear hk); (try clear hi)))
                  go_ret
                  exact ⟨by first | rfl | (simp [errW_none, errW_some] <;> rfl) | (simp [*, errW_none, errW_some] <;> rfl), by repeat (first | (with_reducible first | exact HB.out | apply below_alloc | apply pw_below_drewN | apply below_drew1) | exact HB.out)⟩
                · replace c8 := Bool.eq_false_iff.mpr c8
                  subst c8
                  have H1 : ((utf_Bytes.f kj1 ((rd_T27 l0 x3_1).f1)).bind fun bt279 => ((gangwaylaw2_num.f bt279.2).bind fun t283 => (if t283 = 0 then ((utf_Points.f kj1 bt279.1).bind fun bt284 => ((gangwaylaw2_num.f bt284.2).bind fun t288 => (if t288 = 0 then ((gangwayref0_EqPoints.f kj1 bt284.1 ((rd_T27 l0 x3_1).f1)).bind fun t290 => (gangwaylaw2_UtfBack.j2 kj1 l0 x3_1 bt279.1 bt279.2 (!t290))) else (gangwaylaw2_UtfBack.j2 kj1 l0 x3_1 bt279.1 bt279.2 true)))) else (gangwaylaw2_UtfBack.j3 kj1 l0 x3_1 bt279.1 bt279.2)))) = some r := by rw [if_neg (show ¬ (false = true) by decide)] at H; exact H
                  clear H
                  have H := H1
                  clear H1
                  replace H := Option.bind_eq_some_iff.mp H
                  obtain ⟨⟨t279, t280⟩, A100, H⟩ := H
                  replace H : ((gangwaylaw2_num.f t280).bind fun t283 => (if t283 = 0 then ((utf_Points.f kj1 t279).bind fun bt284 => ((gangwaylaw2_num.f bt284.2).bind fun t288 => (if t288 = 0 then ((gangwayref0_EqPoints.f kj1 bt284.1 ((rd_T27 l0 x3_1).f1)).bind fun t290 => (gangwaylaw2_UtfBack.j2 kj1 l0 x3_1 t279 t280 (!t290))) else (gangwaylaw2_UtfBack.j2 kj1 l0 x3_1 t279 t280 true)))) else (gangwaylaw2_UtfBack.j3 kj1 l0 x3_1 t279 t280))) = some r := H
                  have A10 := Aside0.mk A100
                  clear A100
                  replace H := Option.bind_eq_some_iff.mp H
                  obtain ⟨t283, A110, H⟩ := H
                  replace H : (if t283 = 0 then ((utf_Points.f kj1 t279).bind fun bt284 => ((gangwaylaw2_num.f bt284.2).bind fun t288 => (if t288 = 0 then ((gangwayref0_EqPoints.f kj1 bt284.1 ((rd_T27 l0 x3_1).f1)).bind fun t290 => (gangwaylaw2_UtfBack.j2 kj1 l0 x3_1 t279 t280 (!t290))) else (gangwaylaw2_UtfBack.j2 kj1 l0 x3_1 t279 t280 true)))) else (gangwaylaw2_UtfBack.j3 kj1 l0 x3_1 t279 t280)) = some r := H
                  have A11 := Aside0.mk A110
                  clear A110
                  have HC12 := Aside0.mk H
                  clear H
                  have p276 : 0 ≤ (x3_1 : Int) := of_decide_eq_true (by first | (with_reducible assumption) | assumption)
                  have q276 : x3_1 < (l0.length : Int) := of_decide_eq_true (by first | (with_reducible assumption) | assumption)
                  obtain ⟨ad276, A276_0, c276_0, A276_1, c276_1, e276, hx276_0, hx276_1, hl276_0, hi276_0, hl276_1, hi276_1⟩ := at_T27 HR0.out x3_1 p276 q276
                  cases e276
                  replace hx276_0 := (HB.out.cell (World.block_lt_of_cell? w _ hx276_0)).trans hx276_0
                  replace hx276_1 := (HB.out.cell (World.block_lt_of_cell? w _ hx276_1)).trans hx276_1
                  have HR276_0 := Aside0.mk hi276_0
                  have HC276_0 := Aside0.mk hl276_0
                  clear hi276_0 hl276_0
                  have HR276_1 := Aside0.mk hi276_1
                  have HC276_1 := Aside0.mk hl276_1
                  clear hi276_1 hl276_1
                  replace p276 := eq_true p276
                  replace q276 := eq_true q276
                  go_upto_if 38 with (first | ((with_reducible refine gate_callee (f := 7) rfl ?_); refine goesL_ (some 26) rfl rfl Try.func7 (by kernel_rfl) rfl #[.agg #[.slice A276_0 ((rd_T27 l0 x3_1).f0).length c276_0, .slice A276_1 ((rd_T27 l0 x3_1).f1).length c276_1]] rfl (by (try simp only [List.map_toArray, List.map_cons, List.map_nil]); first | done | rfl | (simp only [List.length_drop, List.length_take]; rfl)) ?_; (with_reducible refine (gangwaylaw2_heavy.calls _ _ ((rd_T27 l0 x3_1).f0) _ _ ((rd_T27 l0 x3_1).f1) false _ ?side1 ?side2 ?side3 ?side4 A7.out).mono ?_); (case side1 => repeat (first | exact (Kd.C_below HR276_0.out HB.out) | (with_reducible refine Kd.C_alloc ?_ _) | (with_reducible refine Kd.C_drewN ?_ _) | (with_reducible refine Kd.C_drew ?_))); (case side2 => exact HC276_0.out); (case side3 => repeat (first | exact (Kd.C_below HR276_1.out HB.out) | (with_reducible refine Kd.C_alloc ?_ _) | (with_reducible refine Kd.C_drewN ?_ _) | (with_reducible refine Kd.C_drew ?_))); (case side4 => exact HC276_1.out); rintro e w13 ⟨rfl, hb⟩; refine ⟨_, rfl, ?_⟩; have n0_ := Aside0.mk (below_step (by repeat (first | (with_reducible first | exact HB.out | apply below_alloc | apply pw_below_drewN | apply below_drew1) | exact HB.out)) hb); clear HB; have HB := n0_; clear n0_; (try clear hb); (try clear hb2); (try clear hk); (try clear hi); have p278 : 0 ≤ (x3_1 : Int) := of_decide_eq_true (by first | (with_reducible assumption) | assumption); have q278 : x3_1 < (l0.length : Int) := of_decide_eq_true (by first | (with_reducible assumption) | assumption); obtain ⟨ad278, A278_0, c278_0, A278_1, c278_1, e278, hx278_0, hx278_1, hl278_0, hi278_0, hl278_1, hi278_1⟩ := at_T27 HR0.out x3_1 p278 q278; obtain rfl : ad276 = ad278 := (by injection e278); replace hx278_0 := (HB.out.cell (World.block_lt_of_cell? w _ hx278_0)).trans hx278_0; replace hx278_1 := (HB.out.cell (World.block_lt_of_cell? w _ hx278_1)).trans hx278_1; have HR278_0 := Aside0.mk hi278_0; have HC278_0 := Aside0.mk hl278_0; clear hi278_0 hl278_0; have HR278_1 := Aside0.mk hi278_1; have HC278_1 := Aside0.mk hl278_1; clear hi278_1 hl278_1; replace p278 := eq_true p278; replace q278 := eq_true q278) | ((with_reducible refine gate_callee (f := 19) rfl ?_); refine goesL_ (some 33) rfl rfl Try.func19 (by kernel_rfl) rfl #[.slice A278_1 ((rd_T27 l0 x3_1).f1).length c278_1] rfl (by (try simp only [List.map_toArray, List.map_cons, List.map_nil]); first | done | rfl | (simp only [List.length_drop, List.length_take]; rfl)) ?_; (with_reducible refine (utf_Bytes.calls kj1 _ _ ((rd_T27 l0 x3_1).f1) t279 t280 _ ?side1 ?side2 A10.out).mono ?_); (case side1 => repeat (first | exact (Kd.C_below HR278_1.out HB.out) | (with_reducible refine Kd.C_alloc ?_ _) | (with_reducible refine Kd.C_drewN ?_ _) | (with_reducible refine Kd.C_drew ?_))); (case side2 => exact HC278_1.out); rintro e w14 ⟨v281, rfl, ho0, hb⟩; refine ⟨_, rfl, ?_⟩; have n0_ := Aside0.mk (Kd.R_lower ho0 (below_size (by repeat (first | (with_reducible first | exact HB.out | apply below_alloc | apply pw_below_drewN | apply below_drew1) | exact HB.out)))); have n1_ := Aside0.mk (below_step (by repeat (first | (with_reducible first | exact HB.out | apply below_alloc | apply pw_below_drewN | apply below_drew1) | exact HB.out)) hb); clear HB; have HO282 := n0_; have HB := n1_; clear n0_ n1_; (try clear hb); (try clear hb2); (try clear hk); (try clear hi); (try clear ho0)) | ((with_reducible refine gate_callee (f := 11) rfl ?_); refine goesL_ (some 37) rfl rfl Try.func11 (by kernel_rfl) rfl #[.int .i64 t280] rfl (by (try simp only [List.map_toArray, List.map_cons, List.map_nil]); first | done | rfl | (simp only [List.length_drop, List.length_take]; rfl)) ?_; (with_reducible refine (gangwaylaw2_num.calls t280 t283 _ A11.out).mono ?_); rintro e w' ⟨rfl, ⟨nd, rfl⟩⟩; refine ⟨_, rfl, ?_⟩))
                  (try simp only [Act.put, List.setIfInBounds_toArray, List.set_cons_zero, List.set_cons_succ])
                  go_cut [] (fun wc => ∃ (kq : Nat), Aside0 (gangwaylaw2_UtfBack.j3 kq l0 x3_1 t279 t280 = some r) ∧ Aside0 (kq ≤ kj1) ∧ Aside0 (Kd.R (Kd.int .u8) 5 wc w.heap.size (fun _ => True) v281 t279) ∧ Aside0 (Below w.heap.size w wc))
                  case first =>
                    have H := HC12.out
                    clear HC12
                    by_cases c15 : t283 = 0
                    · rw [if_pos c15] at H
                      have c15b0 : (t283 == 0) = true := beq_iff_eq.mpr c15
                      have c15b1 : (t283 != 0) = false := bne_eq_false_iff_eq.mpr c15
                      clear c15
                      (first | rw [c15b0] | (simp only [i64_w, i32_w]; rw [c15b0]) | skip)
                      replace H := Option.bind_eq_some_iff.mp H
                      obtain ⟨⟨t284, t285⟩, A160, H⟩ := H
                      replace H : ((gangwaylaw2_num.f t285).bind fun t288 => (if t288 = 0 then ((gangwayref0_EqPoints.f kj1 t284 ((rd_T27 l0 x3_1).f1)).bind fun t290 => (gangwaylaw2_UtfBack.j2 kj1 l0 x3_1 t279 t280 (!t290))) else (gangwaylaw2_UtfBack.j2 kj1 l0 x3_1 t279 t280 true))) = some r := H
                      have A16 := Aside0.mk A160
                      clear A160
                      have HC17 := Aside0.mk H
                      clear H
                      obtain ⟨Ao18, co18, eo18⟩ := Kd.R_slice HO282.out
                      subst eo18
                      go_upto_region 9 with (first | ((with_reducible refine gate_callee (f := 9) rfl ?_); refine goesL_ (some 41) rfl rfl Try.func9 (by kernel_rfl) rfl #[.slice Ao18 t279.length co18] rfl (by (try simp only [List.map_toArray, List.map_cons, List.map_nil]); first | done | rfl | (simp only [List.length_drop, List.length_take]; rfl)) ?_; (with_reducible refine (utf_Points.calls kj1 _ _ t279 t284 t285 _ ?side1 ?side2 A16.out).mono ?_); (case side1 => repeat (first | exact (Kd.R_reads' HO282.out).2.2 | (with_reducible refine Kd.C_alloc ?_ _) | (with_reducible refine Kd.C_drewN ?_ _) | (with_reducible refine Kd.C_drew ?_))); (case side2 => exact (Kd.R_reads' HO282.out).2.1); rintro e w19 ⟨v286, rfl, ho0, hb⟩; refine ⟨_, rfl, ?_⟩; have n0_ := Aside0.mk (Kd.R_below (by (with_reducible repeat (first | apply Kd.R_alloc | apply Kd.R_drewN | apply Kd.R_drew)); exact HO282.out) hb); have n1_ := Aside0.mk (Kd.R_lower ho0 (below_size (by repeat (first | (with_reducible first | exact HB.out | apply below_alloc | apply pw_below_drewN | apply below_drew1) | exact HB.out)))); have n2_ := Aside0.mk (below_step (by repeat (first | (with_reducible first | exact HB.out | apply below_alloc | apply pw_below_drewN | apply below_drew1) | exact HB.out)) hb); clear HO282; clear HB; have HO282 := n0_; have HO287 := n1_; have HB := n2_; clear n0_ n1_ n2_; (try clear hb); (try clear hb2); (try clear hk); (try clear hi); (try clear ho0)))
                      (try simp only [Act.put, List.setIfInBounds_toArray, List.set_cons_zero, List.set_cons_succ])
                      go_cut [56] (fun v56 wc => ∃ (kq : Nat) (x56_16 : Bool), v56 = .bool x56_16 ∧ Aside0 (gangwaylaw2_UtfBack.j2 kq l0 x3_1 t279 t280 x56_16 = some r) ∧ Aside0 (kq ≤ kj1) ∧ Aside0 (Kd.R (Kd.int .u8) 5 wc w.heap.size (fun _ => True) (.slice Ao18 t279.length co18) t279) ∧ Aside0 (Below w.heap.size w wc))
                      case first =>
                        have H := HC17.out
                        clear HC17
                        replace H := Option.bind_eq_some_iff.mp H
                        obtain ⟨t288, A200, H⟩ := H
                        replace H : (if t288 = 0 then ((gangwayref0_EqPoints.f kj1 t284 ((rd_T27 l0 x3_1).f1)).bind fun t290 => (gangwaylaw2_UtfBack.j2 kj1 l0 x3_1 t279 t280 (!t290))) else (gangwaylaw2_UtfBack.j2 kj1 l0 x3_1 t279 t280 true)) = some r := H
                        have A20 := Aside0.mk A200
                        clear A200
                        by_cases c21 : t288 = 0
                        · rw [if_pos c21] at H
                          have c21b0 : (t288 == 0) = true := beq_iff_eq.mpr c21
                          have c21b1 : (t288 != 0) = false := bne_eq_false_iff_eq.mpr c21
                          clear c21
                          (first | rw [c21b0] | (simp only [i64_w, i32_w]; rw [c21b0]) | skip)
                          replace H := Option.bind_eq_some_iff.mp H
                          obtain ⟨t290, A220, H⟩ := H
                          replace H : (gangwaylaw2_UtfBack.j2 kj1 l0 x3_1 t279 t280 (!t290)) = some r := H
                          have A22 := Aside0.mk A220
                          clear A220
                          have H' := Aside0.mk H
                          clear H
                          go_wp2_with (first | ((with_reducible refine gate_callee (f := 11) rfl ?_); refine goesL_ (some 45) rfl rfl Try.func11 (by kernel_rfl) rfl #[.int .i64 t285] rfl (by (try simp only [List.map_toArray, List.map_cons, List.map_nil]); first | done | rfl | (simp only [List.length_drop, List.length_take]; rfl)) ?_; (with_reducible refine (gangwaylaw2_num.calls t285 t288 _ A20.out).mono ?_); rintro e w' ⟨rfl, ⟨nd, rfl⟩⟩; refine ⟨_, rfl, ?_⟩; have p289 : 0 ≤ (x3_1 : Int) := of_decide_eq_true (by first | (with_reducible assumption) | assumption); have q289 : x3_1 < (l0.length : Int) := of_decide_eq_true (by first | (with_reducible assumption) | assumption); obtain ⟨ad289, A289_0, c289_0, A289_1, c289_1, e289, hx289_0, hx289_1, hl289_0, hi289_0, hl289_1, hi289_1⟩ := at_T27 HR0.out x3_1 p289 q289; obtain rfl : ad276 = ad289 := (by injection e289); replace hx289_0 := (HB.out.cell (World.block_lt_of_cell? w _ hx289_0)).trans hx289_0; replace hx289_1 := (HB.out.cell (World.block_lt_of_cell? w _ hx289_1)).trans hx289_1; have HR289_0 := Aside0.mk hi289_0; have HC289_0 := Aside0.mk hl289_0; clear hi289_0 hl289_0; have HR289_1 := Aside0.mk hi289_1; have HC289_1 := Aside0.mk hl289_1; clear hi289_1 hl289_1; replace p289 := eq_true p289; replace q289 := eq_true q289; obtain ⟨Ao23, co23, eo23⟩ := Kd.R_slice HO287.out; subst eo23) | (go_at_call 13; (with_reducible refine (gangwayref0_EqPoints.calls kj1 _ _ t284 _ _ ((rd_T27 l0 x3_1).f1) t290 _ ?side1 ?side2 ?side3 ?side4 A22.out).mono ?_); (case side1 => repeat (first | exact (Kd.R_reads' HO287.out).2.2 | (with_reducible refine Kd.C_alloc ?_ _) | (with_reducible refine Kd.C_drewN ?_ _) | (with_reducible refine Kd.C_drew ?_))); (case side2 => exact (Kd.R_reads' HO287.out).2.1); (case side3 => repeat (first | exact (Kd.C_below HR289_1.out (by repeat (first | (with_reducible first | exact HB.out | apply below_alloc | apply pw_below_drewN | apply below_drew1) | exact HB.out))) | (with_reducible refine Kd.C_alloc ?_ _) | (with_reducible refine Kd.C_drewN ?_ _) | (with_reducible refine Kd.C_drew ?_))); (case side4 => exact HC289_1.out); rintro e w' ⟨rfl, ⟨nd, rfl⟩⟩))
                          go_meet
                          case rel => exact ⟨_, (!t290), (by first | rfl | (simp; done) | (simp [*]; done)), H', ⟨by have := HK1.out; have := HJ1.out; first | omega | exact Nat.le_refl _⟩, ⟨by (with_reducible repeat (first | apply Kd.R_alloc | apply Kd.R_drewN | apply Kd.R_drew)); exact HO282.out⟩, ⟨by repeat (first | (with_reducible first | exact HB.out | apply below_alloc | apply pw_below_drewN | apply below_drew1) | exact HB.out)⟩⟩
                        · rw [if_neg c21] at H
                          have c21b0 : (t288 == 0) = false := beq_eq_false_iff_ne.mpr c21
                          have c21b1 : (t288 != 0) = true := bne_iff_ne.mpr c21
                          (first | rw [c21b0] | (simp only [i64_w, i32_w]; rw [c21b0]) | skip)
                          have H' := Aside0.mk H
                          clear H
                          go_wp2_with (first | ((with_reducible refine gate_callee (f := 11) rfl ?_); refine goesL_ (some 45) rfl rfl Try.func11 (by kernel_rfl) rfl #[.int .i64 t285] rfl (by (try simp only [List.map_toArray, List.map_cons, List.map_nil]); first | done | rfl | (simp only [List.length_drop, List.length_take]; rfl)) ?_; (with_reducible refine (gangwaylaw2_num.calls t285 t288 _ A20.out).mono ?_); rintro e w' ⟨rfl, ⟨nd, rfl⟩⟩; refine ⟨_, rfl, ?_⟩))
                          go_meet
                          case rel => exact ⟨_, (true), (by first | rfl | (simp; done) | (simp [*]; done)), H', ⟨by have := HK1.out; have := HJ1.out; first | omega | exact Nat.le_refl _⟩, ⟨by (with_reducible repeat (first | apply Kd.R_alloc | apply Kd.R_drewN | apply Kd.R_drew)); exact HO282.out⟩, ⟨by repeat (first | (with_reducible first | exact HB.out | apply below_alloc | apply pw_below_drewN | apply below_drew1) | exact HB.out)⟩⟩
                      case rest =>
                        clear HC17
                        try clear c1
                        try clear c2
                        try clear p2
                        try clear q2
                        try clear hx2
                        try clear c3
                        try clear c3b0
                        try clear c4
                        try clear c5
                        try clear c5b0
                        try clear c6
                        try clear c6b0
                        try clear c7
                        try clear c8
                        try clear c9
                        try clear c11
                        try clear c15
                        try clear c15b0
                        try clear c15b1
                        try clear c19
                        try clear c21
                        try clear c21b0
                        try clear c21b1
                        try clear hx276_0
                        try clear hx276_1
                        try clear hx278_0
                        try clear hx278_1
                        try clear hx289_0
                        try clear hx289_1
                        try clear p2
                        try clear p276
                        try clear p278
                        try clear p289
                        try clear q276
                        try clear q278
                        try clear q289
                        obtain ⟨kq, x56_16, rfl, HA, HJ16, HO_4, HB⟩ := hcut
                        cases kq with
                        | zero => exact absurd HA.out (by simp [gangwaylaw2_UtfBack.j2])
                        | succ kj16 =>
                          have H := HA.out
                          clear HA
                          simp only [gangwaylaw2_UtfBack.j2] at H
                          by_cases c24 : x56_16 = true
                          · subst c24
                            have H1 : (some false) = some r := by rw [if_pos rfl] at H; exact H
                            clear H
                            have H := H1
                            clear H1
                            obtain rfl := Option.some.inj H
                            go_wp2
                            go_ret
                            exact ⟨by first | rfl | (simp [errW_none, errW_some] <;> rfl) | (simp [*, errW_none, errW_some] <;> rfl), by repeat (first | (with_reducible first | exact HB.out | apply below_alloc | apply pw_below_drewN | apply below_drew1) | exact HB.out)⟩
                          · replace c24 := Bool.eq_false_iff.mpr c24
                            subst c24
                            have H1 : (if (t279.length : Int) > 0 then (if 0 ≤ (wrap64 ((t279.length : Int) - 1)) then (if (wrap64 ((t279.length : Int) - 1)) < (t279.length : Int) then (if (rd t279 (wrap64 ((t279.length : Int) - 1))) ≥ 128 then (if (wrap64 ((t279.length : Int) - 1)) ≤ (t279.length : Int) then ((utf_Check.f kj16 (t279.take ((wrap64 ((t279.length : Int) - 1)) : Int).toNat)).bind fun t296 => ((gangwaylaw2_num.f t296).bind fun t297 => (if t297 = 100 then (gangwaylaw2_UtfBack.j3 kj16 l0 x3_1 t279 t280) else (some false)))) else (none)) else (gangwaylaw2_UtfBack.j3 kj16 l0 x3_1 t279 t280)) else (none)) else (none)) else (gangwaylaw2_UtfBack.j3 kj16 l0 x3_1 t279 t280)) = some r := by rw [if_neg (show ¬ (false = true) by decide)] at H; exact H
                            clear H
                            have H := H1
                            clear H1
                            by_cases c25 : (t279.length : Int) > 0
                            · rw [if_pos c25] at H
                              have c25b0 : decide (0 < (t279.length : Int)) = true := decide_eq_true c25
                              have c25b1 : decide (0 < t279.length) = true := decide_eq_true (by omega)
                              clear c25
                              obtain ⟨ji26, hji26⟩ : ∃ j_ : Int, (wrap64 ((t279.length : Int) - 1)) = j_ := ⟨_, rfl⟩
                              replace H : (if 0 ≤ (ji26) then (if (ji26) < (t279.length : Int) then (if (rd t279 (ji26)) ≥ 128 then (if (ji26) ≤ (t279.length : Int) then ((utf_Check.f kj16 (t279.take ((ji26) : Int).toNat)).bind fun t296 => ((gangwaylaw2_num.f t296).bind fun t297 => (if t297 = 100 then (gangwaylaw2_UtfBack.j3 kj16 l0 x3_1 t279 t280) else (some false)))) else (none)) else (gangwaylaw2_UtfBack.j3 kj16 l0 x3_1 t279 t280)) else (none)) else (none)) = some r := by first | (rw [hji26] at H; exact H) | (simp only [hji26] at H ⊢; exact H)
                              have hji26w : (IntKind.i64.wrap ((t279.length : Int) - 1)) = ji26 := (i64_w _).trans hji26
                              by_cases c27 : 0 ≤ (ji26)
                              · rw [if_pos c27] at H
                                have c27b0 : decide (0 ≤ (ji26)) = true := decide_eq_true c27
                                clear c27
                                by_cases c28 : (ji26) < (t279.length : Int)
                                · rw [if_pos c28] at H
                                  have c28b0 : decide ((ji26) < (t279.length : Int)) = true := decide_eq_true c28
                                  clear c28
                                  by_cases c29 : (rd t279 (ji26)) ≥ 128
                                  · rw [if_pos c29] at H
                                    have c29b0 : decide (128 ≤ (rd t279 (ji26))) = true := decide_eq_true c29
                                    clear c29
                                    have c30b0 := eq_true (of_decide_eq_true (by first | (with_reducible assumption) | assumption) : 0 ≤ (ji26))
                                    by_cases c31 : (ji26) ≤ (t279.length : Int)
                                    · rw [if_pos c31] at H
                                      have c31b0 := eq_true c31
                                      have c31b1 : decide ((ji26) ≤ (t279.length : Int)) = true := decide_eq_true c31
                                      clear c31
                                      obtain ⟨y292, hy292⟩ : ∃ y_ : List Int, y_ = (t279.take ((ji26) : Int).toNat) := ⟨_, rfl⟩
                                      replace H : ((utf_Check.f kj16 y292).bind fun t296 => ((gangwaylaw2_num.f t296).bind fun t297 => (if t297 = 100 then (gangwaylaw2_UtfBack.j3 kj16 l0 x3_1 t279 t280) else (some false)))) = some r := by first | (rw [hy292]; with_reducible exact H) | (have H2_ := (Option.bind_some _ _).symm.trans H; rw [hy292]; with_reducible exact H2_) | (have H2_ := (Option.bind_some _ _).symm.trans H; with_reducible exact H2_) | with_reducible exact H | (rw [hy292]; exact H) | exact H
                                      have Ny292 := Aside0.mk hy292
                                      clear hy292
                                      replace H := Option.bind_eq_some_iff.mp H
                                      obtain ⟨t296, A320, H⟩ := H
                                      replace H : ((gangwaylaw2_num.f t296).bind fun t297 => (if t297 = 100 then (gangwaylaw2_UtfBack.j3 kj16 l0 x3_1 t279 t280) else (some false))) = some r := H
                                      have A32 := Aside0.mk A320
                                      clear A320
                                      replace H := Option.bind_eq_some_iff.mp H
                                      obtain ⟨t297, A330, H⟩ := H
                                      replace H : (if t297 = 100 then (gangwaylaw2_UtfBack.j3 kj16 l0 x3_1 t279 t280) else (some false)) = some r := H
                                      have A33 := Aside0.mk A330
                                      clear A330
                                      by_cases c34 : t297 = 100
                                      · rw [if_pos c34] at H
                                        have c34b0 : (t297 == 100) = true := beq_iff_eq.mpr c34
                                        have c34b1 : (t297 != 100) = false := bne_eq_false_iff_eq.mpr c34
                                        clear c34
                                        have H' := Aside0.mk H
                                        clear H
                                        have p291 : 0 ≤ ((ji26) : Int) := of_decide_eq_true (by first | (with_reducible assumption) | assumption)
                                        have q291 : (ji26) < (t279.length : Int) := of_decide_eq_true (by first | (with_reducible assumption) | assumption)
                                        obtain ⟨ad291, e291, hx291_0⟩ := Kd.at_int (Kd.R_reads' HO_4.out).2.2 (ji26) p291 q291
                                        cases e291
                                        replace p291 := eq_true p291
                                        replace q291 := eq_true q291
                                        have q35 : ((ji26) : Int) ≤ ((t279.length : Int) : Int) := of_decide_eq_true (by first | (with_reducible assumption) | assumption)
                                        obtain ⟨i035, hi035, _, hsz35, _⟩ := info_parts info5
                                        have hroom35 : t279.length ≤ co18 := (Kd.R_reads' HO_4.out).2.1
                                        have hC35 : Kd.C (Kd.int .u8) _ (some ad291) t279.length t279 := (Kd.R_reads' HO_4.out).2.2
                                        have hcut35 := cut_to (P := Try.prog) 24 5 .i64 Try.underlying24 hi035 (some ad291) t279.length co18 (ji26) (of_decide_eq_true (by first | (with_reducible assumption) | assumption)) q35 hroom35
                                        have hr35 := Kd.C_take (m := ((ji26) : Int).toNat) hC35 (by omega)
                                        have hy35 : y292.length = ((ji26) : Int).toNat := (by rw [Ny292.out, List.length_take]; omega)
                                        rw [← Ny292.out] at hr35
                                        rw [← hy35] at hcut35
                                        have HR295 := Aside0.mk hr35
                                        have HC295 := Aside0.mk (show y292.length ≤ co18 from by omega)
                                        clear hr35 hC35 hroom35 hi035 hsz35
                                        have KY35 := Aside0.mk hy35
                                        clear hy35
                                        have KL35 := Aside0.mk (show ((ji26) : Int).toNat ≤ t279.length from by omega)
                                        replace q35 := eq_true q35
                                        go_wp2_with (first | (go_at_call 12; (with_reducible refine (utf_Check.calls kj16 _ _ y292 t296 _ ?side1 ?side2 A32.out).mono ?_); (case side1 => repeat (first | exact (by repeat (first | (with_reducible exact HR295.out) | (with_reducible refine Kd.C_alloc ?_ _) | (with_reducible refine Kd.C_drewN ?_ _) | (with_reducible refine Kd.C_drew ?_) | exact HR295.out)) | (with_reducible refine Kd.C_alloc ?_ _) | (with_reducible refine Kd.C_drewN ?_ _) | (with_reducible refine Kd.C_drew ?_))); (case side2 => exact HC295.out); rintro e w36 ⟨rfl, hb⟩; have n0_ := Aside0.mk (Kd.R_below (by (with_reducible repeat (first | apply Kd.R_alloc | apply Kd.R_drewN | apply Kd.R_drew)); exact HO_4.out) hb); have n1_ := Aside0.mk (Kd.C_below (by repeat (first | (with_reducible exact HR295.out) | (with_reducible refine Kd.C_alloc ?_ _) | (with_reducible refine Kd.C_drewN ?_ _) | (with_reducible refine Kd.C_drew ?_) | exact HR295.out)) hb); have n2_ := Aside0.mk (below_step (by repeat (first | (with_reducible first | exact HB.out | apply below_alloc | apply pw_below_drewN | apply below_drew1) | exact HB.out)) hb); clear HO_4; clear HR295; clear HB; have HO_4 := n0_; have HR295 := n1_; have HB := n2_; clear n0_ n1_ n2_; (try clear hb); (try clear hb2); (try clear hk); (try clear hi)) | (go_at_call 11; (with_reducible refine (gangwaylaw2_num.calls t296 t297 _ A33.out).mono ?_); rintro e w' ⟨rfl, ⟨nd, rfl⟩⟩))
                                        go_meet
                                        case rel => exact ⟨_, H', ⟨by have := HK1.out; have := HJ1.out; have := HJ16.out; first | omega | exact Nat.le_refl _⟩, ⟨by (with_reducible repeat (first | apply Kd.R_alloc | apply Kd.R_drewN | apply Kd.R_drew)); exact HO_4.out⟩, ⟨by repeat (first | (with_reducible first | exact HB.out | apply below_alloc | apply pw_below_drewN | apply below_drew1) | exact HB.out)⟩⟩
                                      · rw [if_neg c34] at H
                                        have c34b0 : (t297 == 100) = false := beq_eq_false_iff_ne.mpr c34
                                        have c34b1 : (t297 != 100) = true := bne_iff_ne.mpr c34
                                        obtain rfl := Option.some.inj H
                                        have p291 : 0 ≤ ((ji26) : Int) := of_decide_eq_true (by first | (with_reducible assumption) | assumption)
                                        have q291 : (ji26) < (t279.length : Int) := of_decide_eq_true (by first | (with_reducible assumption) | assumption)
                                        obtain ⟨ad291, e291, hx291_0⟩ := Kd.at_int (Kd.R_reads' HO_4.out).2.2 (ji26) p291 q291
                                        cases e291
                                        replace p291 := eq_true p291
                                        replace q291 := eq_true q291
                                        have q37 : ((ji26) : Int) ≤ ((t279.length : Int) : Int) := of_decide_eq_true (by first | (with_reducible assumption) | assumption)
                                        obtain ⟨i037, hi037, _, hsz37, _⟩ := info_parts info5
                                        have hroom37 : t279.length ≤ co18 := (Kd.R_reads' HO_4.out).2.1
                                        have hC37 : Kd.C (Kd.int .u8) _ (some ad291) t279.length t279 := (Kd.R_reads' HO_4.out).2.2
                                        have hcut37 := cut_to (P := Try.prog) 24 5 .i64 Try.underlying24 hi037 (some ad291) t279.length co18 (ji26) (of_decide_eq_true (by first | (with_reducible assumption) | assumption)) q37 hroom37
                                        have hr37 := Kd.C_take (m := ((ji26) : Int).toNat) hC37 (by omega)
                                        have hy37 : y292.length = ((ji26) : Int).toNat := (by rw [Ny292.out, List.length_take]; omega)
                                        rw [← Ny292.out] at hr37
                                        rw [← hy37] at hcut37
                                        have HR295 := Aside0.mk hr37
                                        have HC295 := Aside0.mk (show y292.length ≤ co18 from by omega)
                                        clear hr37 hC37 hroom37 hi037 hsz37
                                        have KY37 := Aside0.mk hy37
                                        clear hy37
                                        have KL37 := Aside0.mk (show ((ji26) : Int).toNat ≤ t279.length from by omega)
                                        replace q37 := eq_true q37
                                        go_wp2_with (first | (go_at_call 12; (with_reducible refine (utf_Check.calls kj16 _ _ y292 t296 _ ?side1 ?side2 A32.out).mono ?_); (case side1 => repeat (first | exact (by repeat (first | (with_reducible exact HR295.out) | (with_reducible refine Kd.C_alloc ?_ _) | (with_reducible refine Kd.C_drewN ?_ _) | (with_reducible refine Kd.C_drew ?_) | exact HR295.out)) | (with_reducible refine Kd.C_alloc ?_ _) | (with_reducible refine Kd.C_drewN ?_ _) | (with_reducible refine Kd.C_drew ?_))); (case side2 => exact HC295.out); rintro e w38 ⟨rfl, hb⟩; have n0_ := Aside0.mk (Kd.R_below (by (with_reducible repeat (first | apply Kd.R_alloc | apply Kd.R_drewN | apply Kd.R_drew)); exact HO_4.out) hb); have n1_ := Aside0.mk (Kd.C_below (by repeat (first | (with_reducible exact HR295.out) | (with_reducible refine Kd.C_alloc ?_ _) | (with_reducible refine Kd.C_drewN ?_ _) | (with_reducible refine Kd.C_drew ?_) | exact HR295.out)) hb); have n2_ := Aside0.mk (below_step (by repeat (first | (with_reducible first | exact HB.out | apply below_alloc | apply pw_below_drewN | apply below_drew1) | exact HB.out)) hb); clear HO_4; clear HR295; clear HB; have HO_4 := n0_; have HR295 := n1_; have HB := n2_; clear n0_ n1_ n2_; (try clear hb); (try clear hb2); (try clear hk); (try clear hi)) | (go_at_call 11; (with_reducible refine (gangwaylaw2_num.calls t296 t297 _ A33.out).mono ?_); rintro e w' ⟨rfl, ⟨nd, rfl⟩⟩))
                                        go_ret
                                        exact ⟨by first | rfl | (simp [errW_none, errW_some] <;> rfl) | (simp only [← hji26]; first | rfl | (simp [errW_none, errW_some] <;> rfl)) | (simp [*, errW_none, errW_some] <;> rfl), by repeat (first | (with_reducible first | exact HB.out | apply below_alloc | apply pw_below_drewN | apply below_drew1) | exact HB.out)⟩
                                    · rw [if_neg c31] at H
                                      exact absurd H (by simp)
                                  · rw [if_neg c29] at H
                                    have c29b0 : decide (128 ≤ (rd t279 (ji26))) = false := decide_eq_false c29
                                    clear c29
                                    have H' := Aside0.mk H
                                    clear H
                                    have p291 : 0 ≤ ((ji26) : Int) := of_decide_eq_true (by first | (with_reducible assumption) | assumption)
                                    have q291 : (ji26) < (t279.length : Int) := of_decide_eq_true (by first | (with_reducible assumption) | assumption)
                                    obtain ⟨ad291, e291, hx291_0⟩ := Kd.at_int (Kd.R_reads' HO_4.out).2.2 (ji26) p291 q291
                                    cases e291
                                    replace p291 := eq_true p291
                                    replace q291 := eq_true q291
                                    go_wp2
                                    go_meet
                                    case rel => exact ⟨_, H', ⟨by have := HK1.out; have := HJ1.out; have := HJ16.out; first | omega | exact Nat.le_refl _⟩, ⟨by (with_reducible repeat (first | apply Kd.R_alloc | apply Kd.R_drewN | apply Kd.R_drew)); exact HO_4.out⟩, ⟨by repeat (first | (with_reducible first | exact HB.out | apply below_alloc | apply pw_below_drewN | apply below_drew1) | exact HB.out)⟩⟩
                                · rw [if_neg c28] at H
                                  exact absurd H (by simp)
                              · rw [if_neg c27] at H
                                exact absurd H (by simp)
                            · rw [if_neg c25] at H
                              have c25b0 : decide (0 < (t279.length : Int)) = false := decide_eq_false c25
                              have c25b1 : decide (0 < t279.length) = false := decide_eq_false (by omega)
                              clear c25
                              have H' := Aside0.mk H
                              clear H
                              go_wp2
                              go_meet
                              case rel => exact ⟨_, H', ⟨by have := HK1.out; have := HJ1.out; have := HJ16.out; first | omega | exact Nat.le_refl _⟩, ⟨by (with_reducible repeat (first | apply Kd.R_alloc | apply Kd.R_drewN | apply Kd.R_drew)); exact HO_4.out⟩, ⟨by repeat (first | (with_reducible first | exact HB.out | apply below_alloc | apply pw_below_drewN | apply below_drew1) | exact HB.out)⟩⟩
                    · rw [if_neg c15] at H
                      have c15b0 : (t283 == 0) = false := beq_eq_false_iff_ne.mpr c15
                      have c15b1 : (t283 != 0) = true := bne_iff_ne.mpr c15
                      (first | rw [c15b0] | (simp only [i64_w, i32_w]; rw [c15b0]) | skip)
                      have H' := Aside0.mk H
                      clear H
                      go_wp2
                      go_meet
                      case rel => exact ⟨_, H', ⟨by have := HK1.out; have := HJ1.out; first | omega | exact Nat.le_refl _⟩, ⟨by (with_reducible repeat (first | apply Kd.R_alloc | apply Kd.R_drewN | apply Kd.R_drew)); exact HO282.out⟩, ⟨by repeat (first | (with_reducible first | exact HB.out | apply below_alloc | apply pw_below_drewN | apply below_drew1) | exact HB.out)⟩⟩
                  case rest =>
                    clear HC12
                    try clear c1
                    try clear c2
                    try clear p2
                    try clear q2
                    try clear hx2
                    try clear c3
                    try clear c3b0
                    try clear q3
                    try clear c4
                    try clear c5
                    try clear c5b0
                    try clear c6
                    try clear c6b0
                    try clear p6
                    try clear c7
                    try clear c8
                    try clear c9
                    try clear c11
                    try clear c15
                    try clear c15b0
                    try clear c15b1
                    try clear c19
                    try clear c21
                    try clear c21b0
                    try clear c21b1
                    try clear c24
                    try clear c25
                    try clear c25b0
                    try clear c25b1
                    try clear c27
                    try clear c27b0
                    try clear p27
                    try clear q27
                    try clear hx27
                    try clear c28
                    try clear c28b0
                    try clear p28
                    try clear q28
                    try clear hx28
                    try clear c29
                    try clear c29b0
                    try clear p29
                    try clear q29
                    try clear hx29
                    try clear c30
                    try clear c30b0
                    try clear c31
                    try clear c31b0
                    try clear c31b1
                    try clear c34
                    try clear c34b0
                    try clear c34b1
                    try clear q35
                    try clear q37
                    try clear hx276_0
                    try clear hx276_1
                    try clear hx278_0
                    try clear hx278_1
                    try clear hx289_0
                    try clear hx289_1
                    try clear hx291_0
                    try clear p2
                    try clear p276
                    try clear p278
                    try clear p289
                    try clear p291
                    try clear q2
                    try clear q276
                    try clear q278
                    try clear q289
                    try clear q291
                    try clear q35
                    try clear q37
                    obtain ⟨kq, HA, HJ11, HO_4, HB⟩ := hcut
                    cases kq with
                    | zero => exact absurd HA.out (by simp [gangwaylaw2_UtfBack.j3])
                    | succ kj11 =>
                      have H := HA.out
                      clear HA
                      simp only [gangwaylaw2_UtfBack.j3] at H
                      by_cases c39 : 0 ≤ x3_1
                      · rw [if_pos c39] at H
                        have c39b0 : decide (0 ≤ x3_1) = true := decide_eq_true c39
                        clear c39
                        by_cases c40 : x3_1 < (l0.length : Int)
                        · rw [if_pos c40] at H
                          have c40b0 : decide (x3_1 < (l0.length : Int)) = true := decide_eq_true c40
                          clear c40
                          replace H := Option.bind_eq_some_iff.mp H
                          obtain ⟨⟨t299, t300⟩, A410, H⟩ := H
                          replace H : ((gangwaylaw2_num.f t300).bind fun t303 => (if t303 = 0 then ((utf_Bytes.f kj11 t299).bind fun bt304 => ((gangwaylaw2_num.f bt304.2).bind fun t308 => (if t308 = 0 then ((gangwayref0_EqBytes.f kj11 bt304.1 ((rd_T27 l0 x3_1).f0)).bind fun t310 => (gangwaylaw2_UtfBack.j4 kj11 l0 x3_1 t279 t280 bt304.1 (!t310))) else (gangwaylaw2_UtfBack.j4 kj11 l0 x3_1 t279 t280 bt304.1 true)))) else (gangwaylaw2_UtfBack.l0 kj11 l0 (wrap64 (x3_1 + 1))))) = some r := H
                          have A41 := Aside0.mk A410
                          clear A410
                          replace H := Option.bind_eq_some_iff.mp H
                          obtain ⟨t303, A420, H⟩ := H
                          replace H : (if t303 = 0 then ((utf_Bytes.f kj11 t299).bind fun bt304 => ((gangwaylaw2_num.f bt304.2).bind fun t308 => (if t308 = 0 then ((gangwayref0_EqBytes.f kj11 bt304.1 ((rd_T27 l0 x3_1).f0)).bind fun t310 => (gangwaylaw2_UtfBack.j4 kj11 l0 x3_1 t279 t280 bt304.1 (!t310))) else (gangwaylaw2_UtfBack.j4 kj11 l0 x3_1 t279 t280 bt304.1 true)))) else (gangwaylaw2_UtfBack.l0 kj11 l0 (wrap64 (x3_1 + 1)))) = some r := H
                          have A42 := Aside0.mk A420
                          clear A420
                          by_cases c43 : t303 = 0
                          · rw [if_pos c43] at H
                            have c43b0 : (t303 == 0) = true := beq_iff_eq.mpr c43
                            have c43b1 : (t303 != 0) = false := bne_eq_false_iff_eq.mpr c43
                            clear c43
                            replace H := Option.bind_eq_some_iff.mp H
                            obtain ⟨⟨t304, t305⟩, A440, H⟩ := H
                            replace H : ((gangwaylaw2_num.f t305).bind fun t308 => (if t308 = 0 then ((gangwayref0_EqBytes.f kj11 t304 ((rd_T27 l0 x3_1).f0)).bind fun t310 => (gangwaylaw2_UtfBack.j4 kj11 l0 x3_1 t279 t280 t304 (!t310))) else (gangwaylaw2_UtfBack.j4 kj11 l0 x3_1 t279 t280 t304 true))) = some r := H
                            have A44 := Aside0.mk A440
                            clear A440
                            have HC45 := Aside0.mk H
                            clear H
                            have p298 : 0 ≤ (x3_1 : Int) := of_decide_eq_true (by first | (with_reducible assumption) | assumption)
                            have q298 : x3_1 < (l0.length : Int) := of_decide_eq_true (by first | (with_reducible assumption) | assumption)
                            obtain ⟨ad298, A298_0, c298_0, A298_1, c298_1, e298, hx298_0, hx298_1, hl298_0, hi298_0, hl298_1, hi298_1⟩ := at_T27 HR0.out x3_1 p298 q298
                            obtain rfl : ad276 = ad298 := (by injection e298)
                            replace hx298_0 := (HB.out.cell (World.block_lt_of_cell? w _ hx298_0)).trans hx298_0
                            replace hx298_1 := (HB.out.cell (World.block_lt_of_cell? w _ hx298_1)).trans hx298_1
                            have HR298_0 := Aside0.mk hi298_0
                            have HC298_0 := Aside0.mk hl298_0
                            clear hi298_0 hl298_0
                            have HR298_1 := Aside0.mk hi298_1
                            have HC298_1 := Aside0.mk hl298_1
                            clear hi298_1 hl298_1
                            replace p298 := eq_true p298
                            replace q298 := eq_true q298
                            go_upto_region 16 with (first | ((with_reducible refine gate_callee (f := 9) rfl ?_); refine goesL_ (some 85) rfl rfl Try.func9 (by kernel_rfl) rfl #[.slice A298_0 ((rd_T27 l0 x3_1).f0).length c298_0] rfl (by (try simp only [List.map_toArray, List.map_cons, List.map_nil]); first | done | rfl | (simp only [List.length_drop, List.length_take]; rfl)) ?_; (with_reducible refine (utf_Points.calls kj11 _ _ ((rd_T27 l0 x3_1).f0) t299 t300 _ ?side1 ?side2 A41.out).mono ?_); (case side1 => repeat (first | exact (Kd.C_below HR298_0.out HB.out) | (with_reducible refine Kd.C_alloc ?_ _) | (with_reducible refine Kd.C_drewN ?_ _) | (with_reducible refine Kd.C_drew ?_))); (case side2 => exact HC298_0.out); rintro e w46 ⟨v301, rfl, ho0, hb⟩; refine ⟨_, rfl, ?_⟩; have n0_ := Aside0.mk (Kd.R_below (by (with_reducible repeat (first | apply Kd.R_alloc | apply Kd.R_drewN | apply Kd.R_drew)); exact HO_4.out) hb); have n1_ := Aside0.mk (Kd.R_lower ho0 (below_size (by repeat (first | (with_reducible first | exact HB.out | apply below_alloc | apply pw_below_drewN | apply below_drew1) | exact HB.out)))); have n2_ := Aside0.mk (below_step (by repeat (first | (with_reducible first | exact HB.out | apply below_alloc | apply pw_below_drewN | apply below_drew1) | exact HB.out)) hb); clear HO_4; clear HB; have HO_4 := n0_; have HO302 := n1_; have HB := n2_; clear n0_ n1_ n2_; (try clear hb); (try clear hb2); (try clear hk); (try clear hi); (try clear ho0)) | ((with_reducible refine gate_callee (f := 11) rfl ?_); refine goesL_ (some 89) rfl rfl Try.func11 (by kernel_rfl) rfl #[.int .i64 t300] rfl (by (try simp only [List.map_toArray, List.map_cons, List.map_nil]); first | done | rfl | (simp only [List.length_drop, List.length_take]; rfl)) ?_; (with_reducible refine (gangwaylaw2_num.calls t300 t303 _ A42.out).mono ?_); rintro e w' ⟨rfl, ⟨nd, rfl⟩⟩; refine ⟨_, rfl, ?_⟩; obtain ⟨Ao47, co47, eo47⟩ := Kd.R_slice HO302.out; subst eo47) | ((with_reducible refine gate_callee (f := 19) rfl ?_); refine goesL_ (some 93) rfl rfl Try.func19 (by kernel_rfl) rfl #[.slice Ao47 t299.length co47] rfl (by (try simp only [List.map_toArray, List.map_cons, List.map_nil]); first | done | rfl | (simp only [List.length_drop, List.length_take]; rfl)) ?_; (with_reducible refine (utf_Bytes.calls kj11 _ _ t299 t304 t305 _ ?side1 ?side2 A44.out).mono ?_); (case side1 => repeat (first | exact (Kd.R_reads' HO302.out).2.2 | (with_reducible refine Kd.C_alloc ?_ _) | (with_reducible refine Kd.C_drewN ?_ _) | (with_reducible refine Kd.C_drew ?_))); (case side2 => exact (Kd.R_reads' HO302.out).2.1); rintro e w48 ⟨v306, rfl, ho0, hb⟩; refine ⟨_, rfl, ?_⟩; have n0_ := Aside0.mk (Kd.R_elder' (by (with_reducible repeat (first | apply Kd.R_alloc | apply Kd.R_drewN | apply Kd.R_drew)); exact HO_4.out) (Kd.R_base ho0) hb); have n1_ := Aside0.mk (Kd.R_below (by (with_reducible repeat (first | apply Kd.R_alloc | apply Kd.R_drewN | apply Kd.R_drew)); exact HO302.out) hb); have n2_ := Aside0.mk (Kd.R_lower (Kd.R_new' ho0 (Kd.R_lt (by (with_reducible repeat (first | apply Kd.R_alloc | apply Kd.R_drewN | apply Kd.R_drew)); exact HO_4.out))) (below_size (by repeat (first | (with_reducible first | exact HB.out | apply below_alloc | apply pw_below_drewN | apply below_drew1) | exact HB.out)))); have n3_ := Aside0.mk (below_step (by repeat (first | (with_reducible first | exact HB.out | apply below_alloc | apply pw_below_drewN | apply below_drew1) | exact HB.out)) hb); clear HO_4; clear HO302; clear HB; have HO_4 := n0_; have HO302 := n1_; have HO307 := n2_; have HB := n3_; clear n0_ n1_ n2_ n3_; (try clear hb); (try clear hb2); (try clear hk); (try clear hi); (try clear ho0)))
                            (try simp only [Act.put, List.setIfInBounds_toArray, List.set_cons_zero, List.set_cons_succ])
                            go_cut [108] (fun v108 wc => ∃ (kq : Nat) (x108_44 : Bool), v108 = .bool x108_44 ∧ Aside0 (gangwaylaw2_UtfBack.j4 kq l0 x3_1 t279 t280 t304 x108_44 = some r) ∧ Aside0 (kq ≤ kj11) ∧ Aside0 (Kd.R (Kd.int .u8) 5 wc w.heap.size (fun k_ => some k_ ≠ (v306 : Value).ownBlock) v281 t279) ∧ Aside0 (Kd.R (Kd.int .u8) 5 wc w.heap.size (fun k_ => some k_ ≠ (v281 : Value).ownBlock) v306 t304) ∧ Aside0 (Below w.heap.size w wc))
                            case first =>
                              have H := HC45.out
                              clear HC45
                              replace H := Option.bind_eq_some_iff.mp H
                              obtain ⟨t308, A490, H⟩ := H
                              replace H : (if t308 = 0 then ((gangwayref0_EqBytes.f kj11 t304 ((rd_T27 l0 x3_1).f0)).bind fun t310 => (gangwaylaw2_UtfBack.j4 kj11 l0 x3_1 t279 t280 t304 (!t310))) else (gangwaylaw2_UtfBack.j4 kj11 l0 x3_1 t279 t280 t304 true)) = some r := H
                              have A49 := Aside0.mk A490
                              clear A490
                              by_cases c50 : t308 = 0
                              · rw [if_pos c50] at H
                                have c50b0 : (t308 == 0) = true := beq_iff_eq.mpr c50
                                have c50b1 : (t308 != 0) = false := bne_eq_false_iff_eq.mpr c50
                                clear c50
                                (first | rw [c50b0] | (simp only [i64_w, i32_w]; rw [c50b0]) | skip)
                                replace H := Option.bind_eq_some_iff.mp H
                                obtain ⟨t310, A510, H⟩ := H
                                replace H : (gangwaylaw2_UtfBack.j4 kj11 l0 x3_1 t279 t280 t304 (!t310)) = some r := H
                                have A51 := Aside0.mk A510
                                clear A510
                                have H' := Aside0.mk H
                                clear H
                                go_wp2_with (first | ((with_reducible refine gate_callee (f := 11) rfl ?_); refine goesL_ (some 97) rfl rfl Try.func11 (by kernel_rfl) rfl #[.int .i64 t305] rfl (by (try simp only [List.map_toArray, List.map_cons, List.map_nil]); first | done | rfl | (simp only [List.length_drop, List.length_take]; rfl)) ?_; (with_reducible refine (gangwaylaw2_num.calls t305 t308 _ A49.out).mono ?_); rintro e w' ⟨rfl, ⟨nd, rfl⟩⟩; refine ⟨_, rfl, ?_⟩; have p309 : 0 ≤ (x3_1 : Int) := of_decide_eq_true (by first | (with_reducible assumption) | assumption); have q309 : x3_1 < (l0.length : Int) := of_decide_eq_true (by first | (with_reducible assumption) | assumption); obtain ⟨ad309, A309_0, c309_0, A309_1, c309_1, e309, hx309_0, hx309_1, hl309_0, hi309_0, hl309_1, hi309_1⟩ := at_T27 HR0.out x3_1 p309 q309; obtain rfl : ad276 = ad309 := (by injection e309); replace hx309_0 := (HB.out.cell (World.block_lt_of_cell? w _ hx309_0)).trans hx309_0; replace hx309_1 := (HB.out.cell (World.block_lt_of_cell? w _ hx309_1)).trans hx309_1; have HR309_0 := Aside0.mk hi309_0; have HC309_0 := Aside0.mk hl309_0; clear hi309_0 hl309_0; have HR309_1 := Aside0.mk hi309_1; have HC309_1 := Aside0.mk hl309_1; clear hi309_1 hl309_1; replace p309 := eq_true p309; replace q309 := eq_true q309; obtain ⟨Ao52, co52, eo52⟩ := Kd.R_slice HO307.out; subst eo52) | (go_at_call 14; (with_reducible refine (gangwayref0_EqBytes.calls kj11 _ _ t304 _ _ ((rd_T27 l0 x3_1).f0) t310 _ ?side1 ?side2 ?side3 ?side4 A51.out).mono ?_); (case side1 => repeat (first | exact (Kd.R_reads' HO307.out).2.2 | (with_reducible refine Kd.C_alloc ?_ _) | (with_reducible refine Kd.C_drewN ?_ _) | (with_reducible refine Kd.C_drew ?_))); (case side2 => exact (Kd.R_reads' HO307.out).2.1); (case side3 => repeat (first | exact (Kd.C_below HR309_0.out (by repeat (first | (with_reducible first | exact HB.out | apply below_alloc | apply pw_below_drewN | apply below_drew1) | exact HB.out))) | (with_reducible refine Kd.C_alloc ?_ _) | (with_reducible refine Kd.C_drewN ?_ _) | (with_reducible refine Kd.C_drew ?_))); (case side4 => exact HC309_0.out); rintro e w' ⟨rfl, ⟨nd, rfl⟩⟩))
                                go_meet
                                case rel => exact ⟨_, (!t310), (by first | rfl | (simp; done) | (simp [*]; done)), H', ⟨by have := HK1.out; have := HJ1.out; have := HJ11.out; first | omega | exact Nat.le_refl _⟩, ⟨by (with_reducible repeat (first | apply Kd.R_alloc | apply Kd.R_drewN | apply Kd.R_drew)); exact Kd.R_mono HO_4.out (fun _ hk => hk.2)⟩, ⟨by (with_reducible repeat (first | apply Kd.R_alloc | apply Kd.R_drewN | apply Kd.R_drew)); exact Kd.R_mono HO307.out (fun _ hk => hk.2)⟩, ⟨by repeat (first | (with_reducible first | exact HB.out | apply below_alloc | apply pw_below_drewN | apply below_drew1) | exact HB.out)⟩⟩
                              · rw [if_neg c50] at H
                                have c50b0 : (t308 == 0) = false := beq_eq_false_iff_ne.mpr c50
                                have c50b1 : (t308 != 0) = true := bne_iff_ne.mpr c50
                                (first | rw [c50b0] | (simp only [i64_w, i32_w]; rw [c50b0]) | skip)
                                have H' := Aside0.mk H
                                clear H
                                go_wp2_with (first | ((with_reducible refine gate_callee (f := 11) rfl ?_); refine goesL_ (some 97) rfl rfl Try.func11 (by kernel_rfl) rfl #[.int .i64 t305] rfl (by (try simp only [List.map_toArray, List.map_cons, List.map_nil]); first | done | rfl | (simp only [List.length_drop, List.length_take]; rfl)) ?_; (with_reducible refine (gangwaylaw2_num.calls t305 t308 _ A49.out).mono ?_); rintro e w' ⟨rfl, ⟨nd, rfl⟩⟩; refine ⟨_, rfl, ?_⟩))
                                go_meet
                                case rel => exact ⟨_, (true), (by first | rfl | (simp; done) | (simp [*]; done)), H', ⟨by have := HK1.out; have := HJ1.out; have := HJ11.out; first | omega | exact Nat.le_refl _⟩, ⟨by (with_reducible repeat (first | apply Kd.R_alloc | apply Kd.R_drewN | apply Kd.R_drew)); exact Kd.R_mono HO_4.out (fun _ hk => hk.2)⟩, ⟨by (with_reducible repeat (first | apply Kd.R_alloc | apply Kd.R_drewN | apply Kd.R_drew)); exact Kd.R_mono HO307.out (fun _ hk => hk.2)⟩, ⟨by repeat (first | (with_reducible first | exact HB.out | apply below_alloc | apply pw_below_drewN | apply below_drew1) | exact HB.out)⟩⟩
                            case rest =>
                              clear HC45
                              try clear c1
                              try clear c2
                              try clear p2
                              try clear q2
                              try clear hx2
                              try clear c3
                              try clear c3b0
                              try clear p3
                              try clear q3
                              try clear hx3
                              try clear c4
                              try clear c5
                              try clear c5b0
                              try clear c6
                              try clear c6b0
                              try clear p6
                              try clear c7
                              try clear c8
                              try clear c9
                              try clear c11
                              try clear c15
                              try clear c15b0
                              try clear c15b1
                              try clear c19
                              try clear c21
                              try clear c21b0
                              try clear c21b1
                              try clear c24
                              try clear c25
                              try clear c25b0
                              try clear c25b1
                              try clear c27
                              try clear c27b0
                              try clear p27
                              try clear q27
                              try clear hx27
                              try clear c28
                              try clear c28b0
                              try clear p28
                              try clear q28
                              try clear hx28
                              try clear c29
                              try clear c29b0
                              try clear p29
                              try clear q29
                              try clear hx29
                              try clear c30
                              try clear c30b0
                              try clear p30
                              try clear q30
                              try clear hx30
                              try clear c31
                              try clear c31b0
                              try clear c31b1
                              try clear c34
                              try clear c34b0
                              try clear c34b1
                              try clear q35
                              try clear q37
                              try clear c39
                              try clear c39b0
                              try clear c40
                              try clear c40b0
                              try clear c43
                              try clear c43b0
                              try clear c43b1
                              try clear c50
                              try clear c50b0
                              try clear c50b1
                              try clear hx276_0
                              try clear hx276_1
                              try clear hx278_0
                              try clear hx278_1
                              try clear hx289_0
                              try clear hx289_1
                              try clear hx291_0
                              try clear hx298_0
                              try clear hx298_1
                              try clear hx309_0
                              try clear hx309_1
                              try clear p2
                              try clear p27
                              try clear p276
                              try clear p278
                              try clear p28
                              try clear p289
                              try clear p29
                              try clear p291
                              try clear p298
                              try clear p309
                              try clear p6
                              try clear q2
                              try clear q27
                              try clear q276
                              try clear q278
                              try clear q28
                              try clear q289
                              try clear q29
                              try clear q291
                              try clear q298
                              try clear q3
                              try clear q309
                              try clear q35
                              try clear q37
                              obtain ⟨kq, x108_44, rfl, HA, HJ44, HO_4, HO_10, HB⟩ := hcut
                              cases kq with
                              | zero => exact absurd HA.out (by simp [gangwaylaw2_UtfBack.j4])
                              | succ kj44 =>
                                have H := HA.out
                                clear HA
                                simp only [gangwaylaw2_UtfBack.j4] at H
                                by_cases c53 : x108_44 = true
                                · subst c53
                                  have H1 : (some false) = some r := by rw [if_pos rfl] at H; exact H
                                  clear H
                                  have H := H1
                                  clear H1
                                  obtain rfl := Option.some.inj H
                                  go_wp2
                                  go_ret
                                  exact ⟨by first | rfl | (simp [errW_none, errW_some] <;> rfl) | (simp [*, errW_none, errW_some] <;> rfl), by repeat (first | (with_reducible first | exact HB.out | apply below_alloc | apply pw_below_drewN | apply below_drew1) | exact HB.out)⟩
                                · replace c53 := Bool.eq_false_iff.mpr c53
                                  subst c53
                                  have H1 : ((gangwaylaw2_num.f t280).bind fun t311 => (if t311 = 0 then (if t304.length + t279.length < 140737488355328 then ((utf_Check.f kj44 (t304 ++ t279)).bind fun t315 => ((gangwaylaw2_num.f t315).bind fun t316 => (if t316 = 0 then (gangwaylaw2_UtfBack.l0 kj44 l0 (wrap64 (x3_1 + 1))) else (some false)))) else (none)) else (gangwaylaw2_UtfBack.l0 kj44 l0 (wrap64 (x3_1 + 1))))) = some r := by rw [if_neg (show ¬ (false = true) by decide)] at H; exact H
                                  clear H
                                  have H := H1
                                  clear H1
                                  replace H := Option.bind_eq_some_iff.mp H
                                  obtain ⟨t311, A540, H⟩ := H
                                  replace H : (if t311 = 0 then (if t304.length + t279.length < 140737488355328 then ((utf_Check.f kj44 (t304 ++ t279)).bind fun t315 => ((gangwaylaw2_num.f t315).bind fun t316 => (if t316 = 0 then (gangwaylaw2_UtfBack.l0 kj44 l0 (wrap64 (x3_1 + 1))) else (some false)))) else (none)) else (gangwaylaw2_UtfBack.l0 kj44 l0 (wrap64 (x3_1 + 1)))) = some r := H
                                  have A54 := Aside0.mk A540
                                  clear A540
                                  by_cases c55 : t311 = 0
                                  · rw [if_pos c55] at H
                                    have c55b0 : (t311 == 0) = true := beq_iff_eq.mpr c55
                                    have c55b1 : (t311 != 0) = false := bne_eq_false_iff_eq.mpr c55
                                    clear c55
                                    by_cases c56 : t304.length + t279.length < 140737488355328
                                    · rw [if_pos c56] at H
                                      have LMc56 := Aside0.mk c56
                                      clear c56
                                      obtain ⟨y312, hy312⟩ : ∃ y_ : List Int, y_ = (t304 ++ t279) := ⟨_, rfl⟩
                                      replace H : ((utf_Check.f kj44 y312).bind fun t315 => ((gangwaylaw2_num.f t315).bind fun t316 => (if t316 = 0 then (gangwaylaw2_UtfBack.l0 kj44 l0 (wrap64 (x3_1 + 1))) else (some false)))) = some r := by first | (rw [hy312]; with_reducible exact H) | (have H2_ := (Option.bind_some _ _).symm.trans H; rw [hy312]; with_reducible exact H2_) | (have H2_ := (Option.bind_some _ _).symm.trans H; with_reducible exact H2_) | with_reducible exact H | (rw [hy312]; exact H) | exact H
                                      have Ny312 := Aside0.mk hy312
                                      clear hy312
                                      replace H := Option.bind_eq_some_iff.mp H
                                      obtain ⟨t315, A570, H⟩ := H
                                      replace H : ((gangwaylaw2_num.f t315).bind fun t316 => (if t316 = 0 then (gangwaylaw2_UtfBack.l0 kj44 l0 (wrap64 (x3_1 + 1))) else (some false))) = some r := H
                                      have A57 := Aside0.mk A570
                                      clear A570
                                      replace H := Option.bind_eq_some_iff.mp H
                                      obtain ⟨t316, A580, H⟩ := H
                                      replace H : (if t316 = 0 then (gangwaylaw2_UtfBack.l0 kj44 l0 (wrap64 (x3_1 + 1))) else (some false)) = some r := H
                                      have A58 := Aside0.mk A580
                                      clear A580
                                      by_cases c59 : t316 = 0
                                      · rw [if_pos c59] at H
                                        have c59b0 : (t316 == 0) = true := beq_iff_eq.mpr c59
                                        have c59b1 : (t316 != 0) = false := bne_eq_false_iff_eq.mpr c59
                                        clear c59
                                        have H' := Aside0.mk H
                                        clear H
                                        go_wp2_with (first | ((with_reducible refine gate_callee (f := 11) rfl ?_); refine goesL_ (some 110) rfl rfl Try.func11 (by kernel_rfl) rfl #[.int .i64 t280] rfl (by (try simp only [List.map_toArray, List.map_cons, List.map_nil]); first | done | rfl | (simp only [List.length_drop, List.length_take]; rfl)) ?_; (with_reducible refine (gangwaylaw2_num.calls t280 t311 _ A54.out).mono ?_); rintro e w' ⟨rfl, ⟨nd, rfl⟩⟩; refine ⟨_, rfl, ?_⟩; obtain ⟨Ao61, co61, eo61⟩ := Kd.R_slice HO_4.out; subst eo61) | ((with_reducible refine gate_builtin (b := .append) (xs := #[.tmp 113, .tmp 114]) rfl ?_); (try (refine gate_guard (by rfl) ?_; dsimp only)); at_builtin; refine Kd.R_append_rows (Kd.int .u8) (w0 := w) w.heap.size rfl (.tmp 113) (.tmp 114) 24 5 (.int .u8 0) 1 rfl Try.underlying24 info5 rfl (by decide) (by omega) v306 t304 t279 _ _ _ (fun k_ => some k_ ≠ (.slice Ao61 t279.length co61 : Value).ownBlock) (fun _ => False) rfl rfl ?aO ?aR (fun _ _ h => h) (fun _ h => h.elim) ?aF ?aB ?aS ?aL ?_; (case aR => repeat (first | exact (Kd.R_reads' HO_4.out).2.2 | (with_reducible refine Kd.C_alloc ?_ _) | (with_reducible refine Kd.C_drewN ?_ _) | (with_reducible refine Kd.C_drew ?_))); (case aB => exact (by repeat (first | (with_reducible first | exact HB.out | apply below_alloc | apply pw_below_drewN | apply below_drew1) | exact HB.out))); (case aF => exact (fun k_ hk => Kd.fresh' (Kd.R_lt (by (with_reducible repeat (first | apply Kd.R_alloc | apply Kd.R_drewN | apply Kd.R_drew)); exact HO_4.out)) k_ hk)); (case aO => exact (by (with_reducible repeat (first | apply Kd.R_alloc | apply Kd.R_drewN | apply Kd.R_drew)); exact HO_10.out)); (case aS => exact (below_size (by repeat (first | (with_reducible first | exact HB.out | apply below_alloc | apply pw_below_drewN | apply below_drew1) | exact HB.out)))); (case aL => have := LMc56.out; omega); intro v313 w60 ho hb hg hat; rw [← Ny312.out] at ho; have n0_ := Aside0.mk (Kd.R_after (ok := (fun _ => True)) (by (with_reducible repeat (first | apply Kd.R_alloc | apply Kd.R_drewN | apply Kd.R_drew)); exact Kd.R_mono HO_4.out (fun _ hk => ⟨trivial, hk⟩)) hg hat); have n1_ := Aside0.mk (hb); have n2_ := Aside0.mk (ho); clear HO_4; clear HB; clear HO_10; have HO_4 := n0_; have HB := n1_; have HO314 := n2_; clear n0_ n1_ n2_; clear ho hb hg hat; obtain ⟨Ao62, co62, eo62⟩ := Kd.R_slice HO314.out; subst eo62) | (go_at_call 12; (with_reducible refine (utf_Check.calls kj44 _ _ y312 t315 _ ?side1 ?side2 A57.out).mono ?_); (case side1 => repeat (first | exact (Kd.R_reads' HO314.out).2.2 | (with_reducible refine Kd.C_alloc ?_ _) | (with_reducible refine Kd.C_drewN ?_ _) | (with_reducible refine Kd.C_drew ?_))); (case side2 => exact (Kd.R_reads' HO314.out).2.1); rintro e w63 ⟨rfl, hb⟩; have n0_ := Aside0.mk (Kd.R_below (by (with_reducible repeat (first | apply Kd.R_alloc | apply Kd.R_drewN | apply Kd.R_drew)); exact HO_4.out) hb); have n1_ := Aside0.mk (Kd.R_below (by (with_reducible repeat (first | apply Kd.R_alloc | apply Kd.R_drewN | apply Kd.R_drew)); exact HO314.out) hb); have n2_ := Aside0.mk (below_step (by repeat (first | (with_reducible first | exact HB.out | apply below_alloc | apply pw_below_drewN | apply below_drew1) | exact HB.out)) hb); clear HO_4; clear HO314; clear HB; have HO_4 := n0_; have HO314 := n1_; have HB := n2_; clear n0_ n1_ n2_; (try clear hb); (try clear hb2); (try clear hk); (try clear hi)) | (go_at_call 11; (with_reducible refine (gangwaylaw2_num.calls t315 t316 _ A58.out).mono ?_); rintro e w' ⟨rfl, ⟨nd, rfl⟩⟩))
                                        go_roundg kj44
                                        case measure => have := HK1.out; have := HJ1.out; have := HJ11.out; have := HJ44.out; omega
                                        case rel => exact ⟨(wrap64 (x3_1 + 1)), (by first | rfl | (simp; done) | (simp [*]; done)), H', ⟨by have := HK1.out; have := HJ1.out; have := HJ11.out; have := HJ44.out; omega⟩, ⟨by repeat (first | (with_reducible first | exact HB.out | apply below_alloc | apply pw_below_drewN | apply below_drew1) | exact HB.out)⟩⟩
                                      · rw [if_neg c59] at H
                                        have c59b0 : (t316 == 0) = false := beq_eq_false_iff_ne.mpr c59
                                        have c59b1 : (t316 != 0) = true := bne_iff_ne.mpr c59
                                        obtain rfl := Option.some.inj H
                                        go_wp2_with (first | ((with_reducible refine gate_callee (f := 11) rfl ?_); refine goesL_ (some 110) rfl rfl Try.func11 (by kernel_rfl) rfl #[.int .i64 t280] rfl (by (try simp only [List.map_toArray, List.map_cons, List.map_nil]); first | done | rfl | (simp only [List.length_drop, List.length_take]; rfl)) ?_; (with_reducible refine (gangwaylaw2_num.calls t280 t311 _ A54.out).mono ?_); rintro e w' ⟨rfl, ⟨nd, rfl⟩⟩; refine ⟨_, rfl, ?_⟩; obtain ⟨Ao65, co65, eo65⟩ := Kd.R_slice HO_4.out; subst eo65) | ((with_reducible refine gate_builtin (b := .append) (xs := #[.tmp 113, .tmp 114]) rfl ?_); (try (refine gate_guard (by rfl) ?_; dsimp only)); at_builtin; refine Kd.R_append_rows (Kd.int .u8) (w0 := w) w.heap.size rfl (.tmp 113) (.tmp 114) 24 5 (.int .u8 0) 1 rfl Try.underlying24 info5 rfl (by decide) (by omega) v306 t304 t279 _ _ _ (fun k_ => some k_ ≠ (.slice Ao65 t279.length co65 : Value).ownBlock) (fun _ => False) rfl rfl ?aO ?aR (fun _ _ h => h) (fun _ h => h.elim) ?aF ?aB ?aS ?aL ?_; (case aR => repeat (first | exact (Kd.R_reads' HO_4.out).2.2 | (with_reducible refine Kd.C_alloc ?_ _) | (with_reducible refine Kd.C_drewN ?_ _) | (with_reducible refine Kd.C_drew ?_))); (case aB => exact (by repeat (first | (with_reducible first | exact HB.out | apply below_alloc | apply pw_below_drewN | apply below_drew1) | exact HB.out))); (case aF => exact (fun k_ hk => Kd.fresh' (Kd.R_lt (by (with_reducible repeat (first | apply Kd.R_alloc | apply Kd.R_drewN | apply Kd.R_drew)); exact HO_4.out)) k_ hk)); (case aO => exact (by (with_reducible repeat (first | apply Kd.R_alloc | apply Kd.R_drewN | apply Kd.R_drew)); exact HO_10.out)); (case aS => exact (below_size (by repeat (first | (with_reducible first | exact HB.out | apply below_alloc | apply pw_below_drewN | apply below_drew1) | exact HB.out)))); (case aL => have := LMc56.out; omega); intro v313 w64 ho hb hg hat; rw [← Ny312.out] at ho; have n0_ := Aside0.mk (Kd.R_after (ok := (fun _ => True)) (by (with_reducible repeat (first | apply Kd.R_alloc | apply Kd.R_drewN | apply Kd.R_drew)); exact Kd.R_mono HO_4.out (fun _ hk => ⟨trivial, hk⟩)) hg hat); have n1_ := Aside0.mk (hb); have n2_ := Aside0.mk (ho); clear HO_4; clear HB; clear HO_10; have HO_4 := n0_; have HB := n1_; have HO314 := n2_; clear n0_ n1_ n2_; clear ho hb hg hat; obtain ⟨Ao66, co66, eo66⟩ := Kd.R_slice HO314.out; subst eo66) | (go_at_call 12; (with_reducible refine (utf_Check.calls kj44 _ _ y312 t315 _ ?side1 ?side2 A57.out).mono ?_); (case side1 => repeat (first | exact (Kd.R_reads' HO314.out).2.2 | (with_reducible refine Kd.C_alloc ?_ _) | (with_reducible refine Kd.C_drewN ?_ _) | (with_reducible refine Kd.C_drew ?_))); (case side2 => exact (Kd.R_reads' HO314.out).2.1); rintro e w67 ⟨rfl, hb⟩; have n0_ := Aside0.mk (Kd.R_below (by (with_reducible repeat (first | apply Kd.R_alloc | apply Kd.R_drewN | apply Kd.R_drew)); exact HO_4.out) hb); have n1_ := Aside0.mk (Kd.R_below (by (with_reducible repeat (first | apply Kd.R_alloc | apply Kd.R_drewN | apply Kd.R_drew)); exact HO314.out) hb); have n2_ := Aside0.mk (below_step (by repeat (first | (with_reducible first | exact HB.out | apply below_alloc | apply pw_below_drewN | apply below_drew1) | exact HB.out)) hb); clear HO_4; clear HO314; clear HB; have HO_4 := n0_; have HO314 := n1_; have HB := n2_; clear n0_ n1_ n2_; (try clear hb); (try clear hb2); (try clear hk); (try clear hi)) | (go_at_call 11; (with_reducible refine (gangwaylaw2_num.calls t315 t316 _ A58.out).mono ?_); rintro e w' ⟨rfl, ⟨nd, rfl⟩⟩))
                                        go_ret
                                        exact ⟨by first | rfl | (simp [errW_none, errW_some] <;> rfl) | (simp [*, errW_none, errW_some] <;> rfl), by repeat (first | (with_reducible first | exact HB.out | apply below_alloc | apply pw_below_drewN | apply below_drew1) | exact HB.out)⟩
                                    · rw [if_neg c56] at H
                                      exact absurd H (by simp)
                                  · rw [if_neg c55] at H
                                    have c55b0 : (t311 == 0) = false := beq_eq_false_iff_ne.mpr c55
                                    have c55b1 : (t311 != 0) = true := bne_iff_ne.mpr c55
                                    have H' := Aside0.mk H
                                    clear H
                                    go_wp2_with (first | ((with_reducible refine gate_callee (f := 11) rfl ?_); refine goesL_ (some 110) rfl rfl Try.func11 (by kernel_rfl) rfl #[.int .i64 t280] rfl (by (try simp only [List.map_toArray, List.map_cons, List.map_nil]); first | done | rfl | (simp only [List.length_drop, List.length_take]; rfl)) ?_; (with_reducible refine (gangwaylaw2_num.calls t280 t311 _ A54.out).mono ?_); rintro e w' ⟨rfl, ⟨nd, rfl⟩⟩; refine ⟨_, rfl, ?_⟩))
                                    go_roundg kj44
                                    case measure => have := HK1.out; have := HJ1.out; have := HJ11.out; have := HJ44.out; omega
                                    case rel => exact ⟨(wrap64 (x3_1 + 1)), (by first | rfl | (simp; done) | (simp [*]; done)), H', ⟨by have := HK1.out; have := HJ1.out; have := HJ11.out; have := HJ44.out; omega⟩, ⟨by repeat (first | (with_reducible first | exact HB.out | apply below_alloc | apply pw_below_drewN | apply below_drew1) | exact HB.out)⟩⟩
                          · rw [if_neg c43] at H
                            have c43b0 : (t303 == 0) = false := beq_eq_false_iff_ne.mpr c43
                            have c43b1 : (t303 != 0) = true := bne_iff_ne.mpr c43
                            have H' := Aside0.mk H
                            clear H
                            have p298 : 0 ≤ (x3_1 : Int) := of_decide_eq_true (by first | (with_reducible assumption) | assumption)
                            have q298 : x3_1 < (l0.length : Int) := of_decide_eq_true (by first | (with_reducible assumption) | assumption)
                            obtain ⟨ad298, A298_0, c298_0, A298_1, c298_1, e298, hx298_0, hx298_1, hl298_0, hi298_0, hl298_1, hi298_1⟩ := at_T27 HR0.out x3_1 p298 q298
                            obtain rfl : ad276 = ad298 := (by injection e298)
                            replace hx298_0 := (HB.out.cell (World.block_lt_of_cell? w _ hx298_0)).trans hx298_0
                            replace hx298_1 := (HB.out.cell (World.block_lt_of_cell? w _ hx298_1)).trans hx298_1
                            have HR298_0 := Aside0.mk hi298_0
                            have HC298_0 := Aside0.mk hl298_0
                            clear hi298_0 hl298_0
                            have HR298_1 := Aside0.mk hi298_1
                            have HC298_1 := Aside0.mk hl298_1
                            clear hi298_1 hl298_1
                            replace p298 := eq_true p298
                            replace q298 := eq_true q298
                            go_wp2_with (first | ((with_reducible refine gate_callee (f := 9) rfl ?_); refine goesL_ (some 85) rfl rfl Try.func9 (by kernel_rfl) rfl #[.slice A298_0 ((rd_T27 l0 x3_1).f0).length c298_0] rfl (by (try simp only [List.map_toArray, List.map_cons, List.map_nil]); first | done | rfl | (simp only [List.length_drop, List.length_take]; rfl)) ?_; (with_reducible refine (utf_Points.calls kj11 _ _ ((rd_T27 l0 x3_1).f0) t299 t300 _ ?side1 ?side2 A41.out).mono ?_); (case side1 => repeat (first | exact (Kd.C_below HR298_0.out HB.out) | (with_reducible refine Kd.C_alloc ?_ _) | (with_reducible refine Kd.C_drewN ?_ _) | (with_reducible refine Kd.C_drew ?_))); (case side2 => exact HC298_0.out); rintro e w68 ⟨v301, rfl, ho0, hb⟩; refine ⟨_, rfl, ?_⟩; have n0_ := Aside0.mk (Kd.R_below (by (with_reducible repeat (first | apply Kd.R_alloc | apply Kd.R_drewN | apply Kd.R_drew)); exact HO_4.out) hb); have n1_ := Aside0.mk (Kd.R_lower ho0 (below_size (by repeat (first | (with_reducible first | exact HB.out | apply below_alloc | apply pw_below_drewN | apply below_drew1) | exact HB.out)))); have n2_ := Aside0.mk (below_step (by repeat (first | (with_reducible first | exact HB.out | apply below_alloc | apply pw_below_drewN | apply below_drew1) | exact HB.out)) hb); clear HO_4; clear HB; have HO_4 := n0_; have HO302 := n1_; have HB := n2_; clear n0_ n1_ n2_; (try clear hb); (try clear hb2); (try clear hk); (try clear hi); (try clear ho0)) | ((with_reducible refine gate_callee (f := 11) rfl ?_); refine goesL_ (some 89) rfl rfl Try.func11 (by kernel_rfl) rfl #[.int .i64 t300] rfl (by (try simp only [List.map_toArray, List.map_cons, List.map_nil]); first | done | rfl | (simp only [List.length_drop, List.length_take]; rfl)) ?_; (with_reducible refine (gangwaylaw2_num.calls t300 t303 _ A42.out).mono ?_); rintro e w' ⟨rfl, ⟨nd, rfl⟩⟩; refine ⟨_, rfl, ?_⟩))
                            go_roundg kj11
                            case measure => have := HK1.out; have := HJ1.out; have := HJ11.out; omega
                            case rel => exact ⟨(wrap64 (x3_1 + 1)), (by first | rfl | (simp; done) | (simp [*]; done)), H', ⟨by have := HK1.out; have := HJ1.out; have := HJ11.out; omega⟩, ⟨by repeat (first | (with_reducible first | exact HB.out | apply below_alloc | apply pw_below_drewN | apply below_drew1) | exact HB.out)⟩⟩
                        · rw [if_neg c40] at H
                          exact absurd H (by simp)
                      · rw [if_neg c39] at H
                        exact absurd H (by simp)
              · rw [if_neg c6] at H
                exact absurd H (by simp)
            · rw [if_neg c5] at H
              exact absurd H (by simp)
          · replace c4 := Bool.eq_false_iff.mpr c4
            subst c4
            have H1 : ((gangwaylaw2_wakes.f kj1).bind fun t275 => (some t275)) = some r := by rw [if_neg (show ¬ (false = true) by decide)] at H; exact H
            clear H
            have H := H1
            clear H1
            replace H := Option.bind_eq_some_iff.mp H
            obtain ⟨t275, A690, H⟩ := H
            replace H : (some t275) = some r := H
            have A69 := Aside0.mk A690
            clear A690
            obtain rfl := Option.some.inj H
            go_wp2_with (first | ((with_reducible refine gate_callee (f := 16) rfl ?_); refine goesL_ (some 120) rfl rfl Try.func16 (by kernel_rfl) rfl #[] rfl (by (try simp only [List.map_toArray, List.map_cons, List.map_nil]); first | done | rfl | (simp only [List.length_drop, List.length_take]; rfl)) ?_; (with_reducible refine (gangwaylaw2_wakes.calls kj1  t275 _ A69.out).mono ?_); rintro e w70 ⟨rfl, hb⟩; refine ⟨_, rfl, ?_⟩; have n0_ := Aside0.mk (below_step (by repeat (first | (with_reducible first | exact HB.out | apply below_alloc | apply pw_below_drewN | apply below_drew1) | exact HB.out)) hb); clear HB; have HB := n0_; clear n0_; (try clear hb); (try clear hb2); (try clear hk); (try clear hi)))
            go_ret
            exact ⟨by first | rfl | (simp [errW_none, errW_some] <;> rfl) | (simp [*, errW_none, errW_some] <;> rfl), by repeat (first | (with_reducible first | exact HB.out | apply below_alloc | apply pw_below_drewN | apply below_drew1) | exact HB.out)⟩

/-- THE ONE PURE STATEMENT of gangwaylaw2_UtfBack: yours. -/
def gangwaylaw2_UtfBack.Pure : Prop := ∀ (x0 : List (S27)), (x0.length * 48 ≤ 140737488351232 ∧ ∀ y317 ∈ x0, okT27 y317) → ∃ k, gangwaylaw2_UtfBack.f k x0 = some true
theorem gangwaylaw2_UtfBack.walk (P : gangwaylaw2_UtfBack.Pure) (w : World) (x0 : List (S27)) (A0 : Option Addr) (c0 : Nat) (hr0 : Kd.C k27 w A0 x0.length x0) (hc0 : x0.length ≤ c0) (hok0 : (x0.length * 48 ≤ 140737488351232 ∧ ∀ y318 ∈ x0, okT27 y318)) :
    Calls Try.prog 5 #[.slice A0 x0.length c0] w fun e w' => e = .returned (.bool true) ∧ Below w.heap.size w w' := by
  obtain ⟨k, h⟩ := P x0 hok0
  refine (gangwaylaw2_UtfBack.calls k _ _ x0 true w hr0 hc0 h).mono ?_
  rintro e w' ⟨rfl, hd⟩
  exact ⟨rfl, hd⟩

end Go.Proofs.Ytlggampmmlkkeaa.PAll
