/- Printed by a copy of the printer that was turned for this claim: functions as plain Lean functions, with proofs that their calls come to these; or words that such proofs use. -/
import Derived.Test.YthhmnecnoojcpaaPAllx0
import Derived.Test.YthhmnecnoojcpaaPAllx1
import Derived.Test.YthhmnecnoojcpaaPAllx2
import Derived.Test.YthhmnecnoojcpaaPAllx6
import Derived.Test.YthhmnecnoojcpaaPAllx7
namespace Go.Proofs.Ythhmnecnoojcpaa.PAll
open Go.RowKit Go.Proofs.YthhmnecnoojcpaaW.PrintWords Go.Proofs.YthhmnecnoojcpaaW.PrintLast Go.Proofs.YthhmnecnoojcpaaW.PrintMore
attribute [local go_sem] max2_int min2_int max_two min_two max_three min_three max_four min_four   -- for this text's walks alone
set_option linter.unusedVariables false
set_option linter.unusedSimpArgs false

/-! ### gangwaylaw20_StatFds: function 6 -/
mutual
def gangwaylaw20_StatFds.l0 : Nat → List (S35) → Int → Option (Bool)
  | 0, _, _ => none
  | k + 1, x0, x3 => if x3 < (x0.length : Int) then (gangwaylaw20_StatFds.j1 k x0 x3 (decide (x3 < 20))) else (gangwaylaw20_StatFds.j1 k x0 x3 false)
def gangwaylaw20_StatFds.j1 : Nat → List (S35) → Int → Bool → Option (Bool)
  | 0, _, _, _ => none
  | k + 1, x0, x3, x13 => if x13 = true then (if 0 ≤ x3 then (if x3 < (x0.length : Int) then ((stat_Fdstat.f k ((rd_T35 x0 x3).f0.f0) ((rd_T35 x0 x3).f0.f1) ((rd_T35 x0 x3).f0.f2) ((rd_T35 x0 x3).f0.f3) ((rd_T35 x0 x3).f0.f4) ((rd_T35 x0 x3).f0.f5) ((rd_T35 x0 x3).f0.f6)).bind fun bt302 => ((gangwayref17_MayFd.f ((rd_T35 x0 x3).f0.f0) ((rd_T35 x0 x3).f0.f1) ((rd_T35 x0 x3).f0.f2) ((rd_T35 x0 x3).f0.f3) ((rd_T35 x0 x3).f0.f4) ((rd_T35 x0 x3).f0.f5) ((rd_T35 x0 x3).f0.f6)).bind fun t307 => ((gangwayref20_Fdstat.f k ((rd_T35 x0 x3).f0.f0) ((rd_T35 x0 x3).f0.f1) ((rd_T35 x0 x3).f0.f2) ((rd_T35 x0 x3).f0.f3) ((rd_T35 x0 x3).f0.f4) ((rd_T35 x0 x3).f0.f5) ((rd_T35 x0 x3).f0.f6)).bind fun t309 => ((gangwaylaw20_is.f k bt302.1 bt302.2 t307 t309).bind fun t312 => (if t312 = true then (gangwaylaw20_StatFds.l0 k x0 (wrap64 (x3 + 1))) else (some false)))))) else (none)) else (none)) else ((gangwaylaw20_wakes.f k).bind fun t300 => (some t300))
end
def gangwaylaw20_StatFds.f (k : Nat) (l0 : List (S35)) : Option (Bool) := gangwaylaw20_StatFds.l0 k l0 0
theorem gangwaylaw20_StatFds.mono_l : ∀ k, (∀ y0 y1, LeO (gangwaylaw20_StatFds.l0 k y0 y1) (gangwaylaw20_StatFds.l0 (k + 1) y0 y1)) ∧ (∀ y0 y1 y2, LeO (gangwaylaw20_StatFds.j1 k y0 y1 y2) (gangwaylaw20_StatFds.j1 (k + 1) y0 y1 y2))
  | 0 => ⟨fun _ _ r h => by simp [gangwaylaw20_StatFds.l0] at h, fun _ _ _ r h => by simp [gangwaylaw20_StatFds.j1] at h⟩
  | k + 1 => by
    obtain ⟨ih0, ih1⟩ := gangwaylaw20_StatFds.mono_l k
    refine ⟨?_, ?_⟩
    · intro y0 y1
      unfold gangwaylaw20_StatFds.l0
      repeat' first
      | (with_reducible exact ih0 _ _)
      | (with_reducible exact ih1 _ _ _)
      | (with_reducible exact gangwaylaw20_is.mono _ _ _ _ _)
      | (with_reducible exact gangwaylaw20_wakes.mono _)
      | (with_reducible exact gangwayref20_Fdstat.mono _ _ _ _ _ _ _ _)
      | (with_reducible exact stat_Fdstat.mono _ _ _ _ _ _ _ _)
      | (with_reducible exact LeO.refl _)
      | (with_reducible exact LeO.none _)
      | (with_reducible refine LeO.ite ?_ ?_)
      | (with_reducible refine LeO.bind ?_ (fun _ => ?_))
      | exact ih0 _ _
      | exact ih1 _ _ _
      | exact gangwaylaw20_is.mono _ _ _ _ _
      | exact gangwaylaw20_wakes.mono _
      | exact gangwayref20_Fdstat.mono _ _ _ _ _ _ _ _
      | exact stat_Fdstat.mono _ _ _ _ _ _ _ _
      | exact LeO.none _
      | refine LeO.ite ?_ ?_
      | refine LeO.bind ?_ (fun _ => ?_)
    · intro y0 y1 y2
      unfold gangwaylaw20_StatFds.j1
      repeat' first
      | (with_reducible exact ih0 _ _)
      | (with_reducible exact ih1 _ _ _)
      | (with_reducible exact gangwaylaw20_is.mono _ _ _ _ _)
      | (with_reducible exact gangwaylaw20_wakes.mono _)
      | (with_reducible exact gangwayref20_Fdstat.mono _ _ _ _ _ _ _ _)
      | (with_reducible exact stat_Fdstat.mono _ _ _ _ _ _ _ _)
      | (with_reducible exact LeO.refl _)
      | (with_reducible exact LeO.none _)
      | (with_reducible refine LeO.ite ?_ ?_)
      | (with_reducible refine LeO.bind ?_ (fun _ => ?_))
      | exact ih0 _ _
      | exact ih1 _ _ _
      | exact gangwaylaw20_is.mono _ _ _ _ _
      | exact gangwaylaw20_wakes.mono _
      | exact gangwayref20_Fdstat.mono _ _ _ _ _ _ _ _
      | exact stat_Fdstat.mono _ _ _ _ _ _ _ _
      | exact LeO.none _
      | refine LeO.ite ?_ ?_
      | refine LeO.bind ?_ (fun _ => ?_)
theorem gangwaylaw20_StatFds.mono : ∀ a0 k, LeO (gangwaylaw20_StatFds.f k a0) (gangwaylaw20_StatFds.f (k + 1) a0) := by
  intro a0 k
  obtain ⟨ih0, ih1⟩ := gangwaylaw20_StatFds.mono_l k
  unfold gangwaylaw20_StatFds.f
  repeat' first
      | (with_reducible exact ih0 _ _)
      | (with_reducible exact ih1 _ _ _)
      | (with_reducible exact gangwaylaw20_is.mono _ _ _ _ _)
      | (with_reducible exact gangwaylaw20_wakes.mono _)
      | (with_reducible exact gangwayref20_Fdstat.mono _ _ _ _ _ _ _ _)
      | (with_reducible exact stat_Fdstat.mono _ _ _ _ _ _ _ _)
      | (with_reducible exact LeO.refl _)
      | (with_reducible exact LeO.none _)
      | (with_reducible refine LeO.ite ?_ ?_)
      | (with_reducible refine LeO.bind ?_ (fun _ => ?_))
      | exact ih0 _ _
      | exact ih1 _ _ _
      | exact gangwaylaw20_is.mono _ _ _ _ _
      | exact gangwaylaw20_wakes.mono _
      | exact gangwayref20_Fdstat.mono _ _ _ _ _ _ _ _
      | exact stat_Fdstat.mono _ _ _ _ _ _ _ _
      | exact LeO.none _
      | refine LeO.ite ?_ ?_
      | refine LeO.bind ?_ (fun _ => ?_)
def gangwaylaw20_StatFds.T5 : Bool × List (List Nat × List Nat) := (true, [([], []), ([], []), ([], []), ([], []), ([2, 3], [2, 3]), ([4], [4]), ([5], [5]), ([6], [6]), ([], []), ([], []), ([8, 9], [8, 9]), ([10], [10]), ([11], [11]), ([12, 7], [12]), ([0, 1, 7, 13, 13], [0, 1, 7, 13]), ([14], [14])])
def gangwaylaw20_StatFds.B5 : List Nat := [0, 0, 0, 0, 12, 28, 60, 124, 0, 0, 768, 1792, 3840, 8188, 16383, 32767]
theorem gangwaylaw20_StatFds.tab5 : rtab .any (opsOf Try.f6 5) = gangwaylaw20_StatFds.T5 := by kernel_rfl
theorem gangwaylaw20_StatFds.bits5 : waitsOk gangwaylaw20_StatFds.T5.2 gangwaylaw20_StatFds.B5 = true := by kernel_rfl
set_option maxHeartbeats 8000000 in
set_option maxRecDepth 100000 in
theorem gangwaylaw20_StatFds.calls (k : Nat) (A0 : Option Addr) (c0 : Nat) (l0 : List (S35)) (r : Bool) (w : World) (hr0 : Kd.C k35 w A0 l0.length l0) (hc0 : l0.length ≤ c0) (h : gangwaylaw20_StatFds.f k l0 = some r) :
    Calls Try.prog 6 #[.slice A0 l0.length c0] w fun e w' => e = .returned (.bool r) ∧ Below w.heap.size w w' := by
  have hu28 := Try.underlying28
  have HR0 := Aside0.mk hr0
  have HC0 := Aside0.mk hc0
  clear hr0 hc0
  have HB := Aside0.mk (Below.refl w.heap.size w)
  have H : (gangwaylaw20_StatFds.l0 k l0 0) = some r := h
  clear h
  have H' := Aside0.mk H
  clear H
  go_enter Try.func6, Try.ntmps6
  go_wp2
  go_loopg [3] k (fun kq v3 w' => ∃ (x3_1 : Int), v3 = .int .i64 x3_1 ∧ Aside0 (gangwaylaw20_StatFds.l0 kq l0 x3_1 = some r) ∧ Aside0 (kq ≤ k) ∧ Aside0 (Below w.heap.size w w'))
  case atStart => exact ⟨(0), (by first | rfl | (simp; done) | (simp [*]; done)), H', ⟨Nat.le_refl _⟩, ⟨by repeat (first | (with_reducible first | exact HB.out | apply below_alloc | apply pw_below_drewN | apply below_drew1) | exact HB.out)⟩⟩
  case round =>
    clear H'
    obtain ⟨x3_1, rfl, HA, HK1, HB⟩ := hrel
    cases gk with
    | zero => exact absurd HA.out (by simp [gangwaylaw20_StatFds.l0])
    | succ k1 =>
      have H := HA.out
      clear HA
      simp only [gangwaylaw20_StatFds.l0] at H
      have HC2 := Aside0.mk H
      clear H
      go_upto_region 2 with (fail)
      go_cut [13] (fun v13 wc => ∃ (kq : Nat) (x13_1 : Bool), v13 = .bool x13_1 ∧ Aside0 (gangwaylaw20_StatFds.j1 kq l0 x3_1 x13_1 = some r) ∧ Aside0 (kq ≤ k1) ∧ Aside0 (Below w.heap.size w wc))
      case first =>
        have H := HC2.out
        clear HC2
        by_cases c3 : x3_1 < (l0.length : Int)
        · rw [if_pos c3] at H
          have c3b0 : decide (x3_1 < (l0.length : Int)) = true := decide_eq_true c3
          clear c3
          (first | rw [c3b0] | (simp only [i64_w, i32_w]; rw [c3b0]) | skip)
          have H' := Aside0.mk H
          clear H
          go_wp2
          go_meet
          case rel => exact ⟨_, (decide (x3_1 < 20)), (by first | rfl | (simp; done) | (simp [*]; done)), H', ⟨by have := HK1.out; first | omega | exact Nat.le_refl _⟩, ⟨by repeat (first | (with_reducible first | exact HB.out | apply below_alloc | apply pw_below_drewN | apply below_drew1) | exact HB.out)⟩⟩
        · rw [if_neg c3] at H
          have c3b0 : decide (x3_1 < (l0.length : Int)) = false := decide_eq_false c3
          clear c3
          (first | rw [c3b0] | (simp only [i64_w, i32_w]; rw [c3b0]) | skip)
          have H' := Aside0.mk H
          clear H
          go_wp2
          go_meet
          case rel => exact ⟨_, (false), (by first | rfl | (simp; done) | (simp [*]; done)), H', ⟨by have := HK1.out; first | omega | exact Nat.le_refl _⟩, ⟨by repeat (first | (with_reducible first | exact HB.out | apply below_alloc | apply pw_below_drewN | apply below_drew1) | exact HB.out)⟩⟩
      case rest =>
        clear HC2
        try clear p2
        try clear c3
        try clear c3b0
        obtain ⟨kq, x13_1, rfl, HA, HJ1, HB⟩ := hcut
        cases kq with
        | zero => exact absurd HA.out (by simp [gangwaylaw20_StatFds.j1])
        | succ kj1 =>
          have H := HA.out
          clear HA
          simp only [gangwaylaw20_StatFds.j1] at H
          by_cases c4 : x13_1 = true
          · subst c4
            have H1 : (if 0 ≤ x3_1 then (if x3_1 < (l0.length : Int) then ((stat_Fdstat.f kj1 ((rd_T35 l0 x3_1).f0.f0) ((rd_T35 l0 x3_1).f0.f1) ((rd_T35 l0 x3_1).f0.f2) ((rd_T35 l0 x3_1).f0.f3) ((rd_T35 l0 x3_1).f0.f4) ((rd_T35 l0 x3_1).f0.f5) ((rd_T35 l0 x3_1).f0.f6)).bind fun bt302 => ((gangwayref17_MayFd.f ((rd_T35 l0 x3_1).f0.f0) ((rd_T35 l0 x3_1).f0.f1) ((rd_T35 l0 x3_1).f0.f2) ((rd_T35 l0 x3_1).f0.f3) ((rd_T35 l0 x3_1).f0.f4) ((rd_T35 l0 x3_1).f0.f5) ((rd_T35 l0 x3_1).f0.f6)).bind fun t307 => ((gangwayref20_Fdstat.f kj1 ((rd_T35 l0 x3_1).f0.f0) ((rd_T35 l0 x3_1).f0.f1) ((rd_T35 l0 x3_1).f0.f2) ((rd_T35 l0 x3_1).f0.f3) ((rd_T35 l0 x3_1).f0.f4) ((rd_T35 l0 x3_1).f0.f5) ((rd_T35 l0 x3_1).f0.f6)).bind fun t309 => ((gangwaylaw20_is.f kj1 bt302.1 bt302.2 t307 t309).bind fun t312 => (if t312 = true then (gangwaylaw20_StatFds.l0 kj1 l0 (wrap64 (x3_1 + 1))) else (some false)))))) else (none)) else (none)) = some r := by rw [if_pos rfl] at H; exact H
            clear H
            have H := H1
            clear H1
            by_cases c5 : 0 ≤ x3_1
            · rw [if_pos c5] at H
              have c5b0 : decide (0 ≤ x3_1) = true := decide_eq_true c5
              clear c5
              by_cases c6 : x3_1 < (l0.length : Int)
              · rw [if_pos c6] at H
                have c6b0 : decide (x3_1 < (l0.length : Int)) = true := decide_eq_true c6
                clear c6
                replace H := Option.bind_eq_some_iff.mp H
                obtain ⟨⟨t302, t305⟩, A70, H⟩ := H
                replace H : ((gangwayref17_MayFd.f ((rd_T35 l0 x3_1).f0.f0) ((rd_T35 l0 x3_1).f0.f1) ((rd_T35 l0 x3_1).f0.f2) ((rd_T35 l0 x3_1).f0.f3) ((rd_T35 l0 x3_1).f0.f4) ((rd_T35 l0 x3_1).f0.f5) ((rd_T35 l0 x3_1).f0.f6)).bind fun t307 => ((gangwayref20_Fdstat.f kj1 ((rd_T35 l0 x3_1).f0.f0) ((rd_T35 l0 x3_1).f0.f1) ((rd_T35 l0 x3_1).f0.f2) ((rd_T35 l0 x3_1).f0.f3) ((rd_T35 l0 x3_1).f0.f4) ((rd_T35 l0 x3_1).f0.f5) ((rd_T35 l0 x3_1).f0.f6)).bind fun t309 => ((gangwaylaw20_is.f kj1 t302 t305 t307 t309).bind fun t312 => (if t312 = true then (gangwaylaw20_StatFds.l0 kj1 l0 (wrap64 (x3_1 + 1))) else (some false))))) = some r := H
                have A7 := Aside0.mk A70
                clear A70
                replace H := Option.bind_eq_some_iff.mp H
                obtain ⟨t307, A80, H⟩ := H
                replace H : ((gangwayref20_Fdstat.f kj1 ((rd_T35 l0 x3_1).f0.f0) ((rd_T35 l0 x3_1).f0.f1) ((rd_T35 l0 x3_1).f0.f2) ((rd_T35 l0 x3_1).f0.f3) ((rd_T35 l0 x3_1).f0.f4) ((rd_T35 l0 x3_1).f0.f5) ((rd_T35 l0 x3_1).f0.f6)).bind fun t309 => ((gangwaylaw20_is.f kj1 t302 t305 t307 t309).bind fun t312 => (if t312 = true then (gangwaylaw20_StatFds.l0 kj1 l0 (wrap64 (x3_1 + 1))) else (some false)))) = some r := H
                have A8 := Aside0.mk A80
                clear A80
                replace H := Option.bind_eq_some_iff.mp H
                obtain ⟨t309, A90, H⟩ := H
                replace H : ((gangwaylaw20_is.f kj1 t302 t305 t307 t309).bind fun t312 => (if t312 = true then (gangwaylaw20_StatFds.l0 kj1 l0 (wrap64 (x3_1 + 1))) else (some false))) = some r := H
                have A9 := Aside0.mk A90
                clear A90
                replace H := Option.bind_eq_some_iff.mp H
                obtain ⟨t312, A100, H⟩ := H
                replace H : (if t312 = true then (gangwaylaw20_StatFds.l0 kj1 l0 (wrap64 (x3_1 + 1))) else (some false)) = some r := H
                have A10 := Aside0.mk A100
                clear A100
                by_cases c11 : t312 = true
                · subst c11
                  have H1 : (gangwaylaw20_StatFds.l0 kj1 l0 (wrap64 (x3_1 + 1))) = some r := by rw [if_pos rfl] at H; exact H
                  clear H
                  have H := H1
                  clear H1
                  have H' := Aside0.mk H
                  clear H
                  have p301 : 0 ≤ (x3_1 : Int) := of_decide_eq_true (by first | (with_reducible assumption) | assumption)
                  have q301 : x3_1 < (l0.length : Int) := of_decide_eq_true (by first | (with_reducible assumption) | assumption)
                  obtain ⟨ad301, A301_8, c301_8, A301_9, c301_9, A301_22, c301_22, e301, hx301_0, hx301_1, hx301_2, hx301_3, hx301_4, hx301_5, hx301_6, hx301_7, hx301_8, hx301_9, hx301_10, hx301_11, hx301_12, hx301_13, hx301_14, hx301_15, hx301_16, hx301_17, hx301_18, hx301_19, hx301_20, hx301_21, hx301_22, hl301_8, hi301_8, hl301_9, hi301_9, hl301_22, hi301_22⟩ := at_T35 HR0.out x3_1 p301 q301
                  cases e301
                  replace hx301_0 := (HB.out.cell (World.block_lt_of_cell? w _ hx301_0)).trans hx301_0
                  replace hx301_1 := (HB.out.cell (World.block_lt_of_cell? w _ hx301_1)).trans hx301_1
                  replace hx301_2 := (HB.out.cell (World.block_lt_of_cell? w _ hx301_2)).trans hx301_2
                  replace hx301_3 := (HB.out.cell (World.block_lt_of_cell? w _ hx301_3)).trans hx301_3
                  replace hx301_4 := (HB.out.cell (World.block_lt_of_cell? w _ hx301_4)).trans hx301_4
                  replace hx301_5 := (HB.out.cell (World.block_lt_of_cell? w _ hx301_5)).trans hx301_5
                  replace hx301_6 := (HB.out.cell (World.block_lt_of_cell? w _ hx301_6)).trans hx301_6
                  replace hx301_7 := (HB.out.cell (World.block_lt_of_cell? w _ hx301_7)).trans hx301_7
                  replace hx301_8 := (HB.out.cell (World.block_lt_of_cell? w _ hx301_8)).trans hx301_8
                  replace hx301_9 := (HB.out.cell (World.block_lt_of_cell? w _ hx301_9)).trans hx301_9
                  replace hx301_10 := (HB.out.cell (World.block_lt_of_cell? w _ hx301_10)).trans hx301_10
                  replace hx301_11 := (HB.out.cell (World.block_lt_of_cell? w _ hx301_11)).trans hx301_11
                  replace hx301_12 := (HB.out.cell (World.block_lt_of_cell? w _ hx301_12)).trans hx301_12
                  replace hx301_13 := (HB.out.cell (World.block_lt_of_cell? w _ hx301_13)).trans hx301_13
                  replace hx301_14 := (HB.out.cell (World.block_lt_of_cell? w _ hx301_14)).trans hx301_14
                  replace hx301_15 := (HB.out.cell (World.block_lt_of_cell? w _ hx301_15)).trans hx301_15
                  replace hx301_16 := (HB.out.cell (World.block_lt_of_cell? w _ hx301_16)).trans hx301_16
                  replace hx301_17 := (HB.out.cell (World.block_lt_of_cell? w _ hx301_17)).trans hx301_17
                  replace hx301_18 := (HB.out.cell (World.block_lt_of_cell? w _ hx301_18)).trans hx301_18
                  replace hx301_19 := (HB.out.cell (World.block_lt_of_cell? w _ hx301_19)).trans hx301_19
                  replace hx301_20 := (HB.out.cell (World.block_lt_of_cell? w _ hx301_20)).trans hx301_20
                  replace hx301_21 := (HB.out.cell (World.block_lt_of_cell? w _ hx301_21)).trans hx301_21
                  replace hx301_22 := (HB.out.cell (World.block_lt_of_cell? w _ hx301_22)).trans hx301_22
                  have HR301_8 := Aside0.mk hi301_8
                  have HC301_8 := Aside0.mk hl301_8
                  clear hi301_8 hl301_8
                  have HR301_9 := Aside0.mk hi301_9
                  have HC301_9 := Aside0.mk hl301_9
                  clear hi301_9 hl301_9
                  have HR301_22 := Aside0.mk hi301_22
                  have HC301_22 := Aside0.mk hl301_22
                  clear hi301_22 hl301_22
                  replace p301 := eq_true p301
                  replace q301 := eq_true q301
                  try go_wp2_with (first | ((with_reducible refine gate_callee (f := 21) rfl ?_); refine goesL_ (some 22) rfl rfl Try.func21 (by kernel_rfl) rfl #[.agg #[.int .i64 ((rd_T35 l0 x3_1).f0.f0), .int .i64 ((rd_T35 l0 x3_1).f0.f1), .int .i64 ((rd_T35 l0 x3_1).f0.f2), .int .i64 ((rd_T35 l0 x3_1).f0.f3), .int .i64 ((rd_T35 l0 x3_1).f0.f4), .int .i64 ((rd_T35 l0 x3_1).f0.f5), .string ((rd_T35 l0 x3_1).f0.f6)]] rfl (by (try simp only [List.map_toArray, List.map_cons, List.map_nil]); first | done | rfl | (simp only [List.length_drop, List.length_take]; rfl)) ?_; (with_reducible refine (stat_Fdstat.calls kj1 ((rd_T35 l0 x3_1).f0.f0) ((rd_T35 l0 x3_1).f0.f1) ((rd_T35 l0 x3_1).f0.f2) ((rd_T35 l0 x3_1).f0.f3) ((rd_T35 l0 x3_1).f0.f4) ((rd_T35 l0 x3_1).f0.f5) ((rd_T35 l0 x3_1).f0.f6) t302 t305 _ A7.out).mono ?_); rintro e w12 ⟨v303, rfl, ho0, hb⟩; refine ⟨_, rfl, ?_⟩; have n0_ := Aside0.mk (Kd.R_lower ho0 (below_size (by repeat (first | (with_reducible first | exact HB.out | apply below_alloc | apply pw_below_drewN | apply below_drew1) | exact HB.out)))); have n1_ := Aside0.mk (below_step (by repeat (first | (with_reducible first | exact HB.out | apply below_alloc | apply pw_below_drewN | apply below_drew1) | exact HB.out)) hb); clear HB; have HO304 := n0_; have HB := n1_; clear n0_ n1_; (try clear hb); (try clear hb2); (try clear hk); (try clear hi); (try clear ho0)))
                  have n0_ := Aside0.mk (Kd.R_drew HO304.out)
                  have n1_ := Aside0.mk (below_drew1 HB.out)
                  clear HO304
                  clear HB
                  have HO304 := n0_
                  have HB := n1_
                  clear n0_ n1_
                  have p306 : 0 ≤ (x3_1 : Int) := of_decide_eq_true (by first | (with_reducible assumption) | assumption)
                  have q306 : x3_1 < (l0.length : Int) := of_decide_eq_true (by first | (with_reducible assumption) | assumption)
                  obtain ⟨ad306, A306_8, c306_8, A306_9, c306_9, A306_22, c306_22, e306, hx306_0, hx306_1, hx306_2, hx306_3, hx306_4, hx306_5, hx306_6, hx306_7, hx306_8, hx306_9, hx306_10, hx306_11, hx306_12, hx306_13, hx306_14, hx306_15, hx306_16, hx306_17, hx306_18, hx306_19, hx306_20, hx306_21, hx306_22, hl306_8, hi306_8, hl306_9, hi306_9, hl306_22, hi306_22⟩ := at_T35 HR0.out x3_1 p306 q306
                  have hw306_22 := hx306_22
                  have hw306_21 := hx306_21
                  have hw306_20 := hx306_20
                  have hw306_19 := hx306_19
                  have hw306_18 := hx306_18
                  have hw306_17 := hx306_17
                  have hw306_16 := hx306_16
                  have hw306_15 := hx306_15
                  have hw306_14 := hx306_14
                  have hw306_13 := hx306_13
                  have hw306_12 := hx306_12
                  have hw306_11 := hx306_11
                  have hw306_10 := hx306_10
                  have hw306_9 := hx306_9
                  have hw306_8 := hx306_8
                  have hw306_7 := hx306_7
                  have hw306_6 := hx306_6
                  have hw306_5 := hx306_5
                  have hw306_4 := hx306_4
                  have hw306_3 := hx306_3
                  have hw306_2 := hx306_2
                  have hw306_1 := hx306_1
                  have hw306_0 := hx306_0
                  obtain rfl : ad301 = ad306 := (by injection e306)
                  replace hx306_0 := (HB.out.cell (World.block_lt_of_cell? w _ hx306_0)).trans hx306_0
                  replace hx306_1 := (HB.out.cell (World.block_lt_of_cell? w _ hx306_1)).trans hx306_1
                  replace hx306_2 := (HB.out.cell (World.block_lt_of_cell? w _ hx306_2)).trans hx306_2
                  replace hx306_3 := (HB.out.cell (World.block_lt_of_cell? w _ hx306_3)).trans hx306_3
                  replace hx306_4 := (HB.out.cell (World.block_lt_of_cell? w _ hx306_4)).trans hx306_4
                  replace hx306_5 := (HB.out.cell (World.block_lt_of_cell? w _ hx306_5)).trans hx306_5
                  replace hx306_6 := (HB.out.cell (World.block_lt_of_cell? w _ hx306_6)).trans hx306_6
                  replace hx306_7 := (HB.out.cell (World.block_lt_of_cell? w _ hx306_7)).trans hx306_7
                  replace hx306_8 := (HB.out.cell (World.block_lt_of_cell? w _ hx306_8)).trans hx306_8
                  replace hx306_9 := (HB.out.cell (World.block_lt_of_cell? w _ hx306_9)).trans hx306_9
                  replace hx306_10 := (HB.out.cell (World.block_lt_of_cell? w _ hx306_10)).trans hx306_10
                  replace hx306_11 := (HB.out.cell (World.block_lt_of_cell? w _ hx306_11)).trans hx306_11
                  replace hx306_12 := (HB.out.cell (World.block_lt_of_cell? w _ hx306_12)).trans hx306_12
                  replace hx306_13 := (HB.out.cell (World.block_lt_of_cell? w _ hx306_13)).trans hx306_13
                  replace hx306_14 := (HB.out.cell (World.block_lt_of_cell? w _ hx306_14)).trans hx306_14
                  replace hx306_15 := (HB.out.cell (World.block_lt_of_cell? w _ hx306_15)).trans hx306_15
                  replace hx306_16 := (HB.out.cell (World.block_lt_of_cell? w _ hx306_16)).trans hx306_16
                  replace hx306_17 := (HB.out.cell (World.block_lt_of_cell? w _ hx306_17)).trans hx306_17
                  replace hx306_18 := (HB.out.cell (World.block_lt_of_cell? w _ hx306_18)).trans hx306_18
                  replace hx306_19 := (HB.out.cell (World.block_lt_of_cell? w _ hx306_19)).trans hx306_19
                  replace hx306_20 := (HB.out.cell (World.block_lt_of_cell? w _ hx306_20)).trans hx306_20
                  replace hx306_21 := (HB.out.cell (World.block_lt_of_cell? w _ hx306_21)).trans hx306_21
                  replace hx306_22 := (HB.out.cell (World.block_lt_of_cell? w _ hx306_22)).trans hx306_22
                  have HR306_8 := Aside0.mk hi306_8
                  have HC306_8 := Aside0.mk hl306_8
                  clear hi306_8 hl306_8
                  have HR306_9 := Aside0.mk hi306_9
                  have HC306_9 := Aside0.mk hl306_9
                  clear hi306_9 hl306_9
                  have HR306_22 := Aside0.mk hi306_22
                  have HC306_22 := Aside0.mk hl306_22
                  clear hi306_22 hl306_22
                  replace p306 := eq_true p306
                  replace q306 := eq_true q306
                  have p308 : 0 ≤ (x3_1 : Int) := of_decide_eq_true (by first | (with_reducible assumption) | assumption)
                  have q308 : x3_1 < (l0.length : Int) := of_decide_eq_true (by first | (with_reducible assumption) | assumption)
                  obtain ⟨ad308, A308_8, c308_8, A308_9, c308_9, A308_22, c308_22, e308, hx308_0, hx308_1, hx308_2, hx308_3, hx308_4, hx308_5, hx308_6, hx308_7, hx308_8, hx308_9, hx308_10, hx308_11, hx308_12, hx308_13, hx308_14, hx308_15, hx308_16, hx308_17, hx308_18, hx308_19, hx308_20, hx308_21, hx308_22, hl308_8, hi308_8, hl308_9, hi308_9, hl308_22, hi308_22⟩ := at_T35 HR0.out x3_1 p308 q308
                  have hw308_22 := hx308_22
                  have hw308_21 := hx308_21
                  have hw308_20 := hx308_20
                  have hw308_19 := hx308_19
                  have hw308_18 := hx308_18
                  have hw308_17 := hx308_17
                  have hw308_16 := hx308_16
                  have hw308_15 := hx308_15
                  have hw308_14 := hx308_14
                  have hw308_13 := hx308_13
                  have hw308_12 := hx308_12
                  have hw308_11 := hx308_11
                  have hw308_10 := hx308_10
                  have hw308_9 := hx308_9
                  have hw308_8 := hx308_8
                  have hw308_7 := hx308_7
                  have hw308_6 := hx308_6
                  have hw308_5 := hx308_5
                  have hw308_4 := hx308_4
                  have hw308_3 := hx308_3
                  have hw308_2 := hx308_2
                  have hw308_1 := hx308_1
                  have hw308_0 := hx308_0
                  obtain rfl : ad301 = ad308 := (by injection e308)
                  replace hx308_0 := (HB.out.cell (World.block_lt_of_cell? w _ hx308_0)).trans hx308_0
                  replace hx308_1 := (HB.out.cell (World.block_lt_of_cell? w _ hx308_1)).trans hx308_1
                  replace hx308_2 := (HB.out.cell (World.block_lt_of_cell? w _ hx308_2)).trans hx308_2
                  replace hx308_3 := (HB.out.cell (World.block_lt_of_cell? w _ hx308_3)).trans hx308_3
                  replace hx308_4 := (HB.out.cell (World.block_lt_of_cell? w _ hx308_4)).trans hx308_4
                  replace hx308_5 := (HB.out.cell (World.block_lt_of_cell? w _ hx308_5)).trans hx308_5
                  replace hx308_6 := (HB.out.cell (World.block_lt_of_cell? w _ hx308_6)).trans hx308_6
                  replace hx308_7 := (HB.out.cell (World.block_lt_of_cell? w _ hx308_7)).trans hx308_7
                  replace hx308_8 := (HB.out.cell (World.block_lt_of_cell? w _ hx308_8)).trans hx308_8
                  replace hx308_9 := (HB.out.cell (World.block_lt_of_cell? w _ hx308_9)).trans hx308_9
                  replace hx308_10 := (HB.out.cell (World.block_lt_of_cell? w _ hx308_10)).trans hx308_10
                  replace hx308_11 := (HB.out.cell (World.block_lt_of_cell? w _ hx308_11)).trans hx308_11
                  replace hx308_12 := (HB.out.cell (World.block_lt_of_cell? w _ hx308_12)).trans hx308_12
                  replace hx308_13 := (HB.out.cell (World.block_lt_of_cell? w _ hx308_13)).trans hx308_13
                  replace hx308_14 := (HB.out.cell (World.block_lt_of_cell? w _ hx308_14)).trans hx308_14
                  replace hx308_15 := (HB.out.cell (World.block_lt_of_cell? w _ hx308_15)).trans hx308_15
                  replace hx308_16 := (HB.out.cell (World.block_lt_of_cell? w _ hx308_16)).trans hx308_16
                  replace hx308_17 := (HB.out.cell (World.block_lt_of_cell? w _ hx308_17)).trans hx308_17
                  replace hx308_18 := (HB.out.cell (World.block_lt_of_cell? w _ hx308_18)).trans hx308_18
                  replace hx308_19 := (HB.out.cell (World.block_lt_of_cell? w _ hx308_19)).trans hx308_19
                  replace hx308_20 := (HB.out.cell (World.block_lt_of_cell? w _ hx308_20)).trans hx308_20
                  replace hx308_21 := (HB.out.cell (World.block_lt_of_cell? w _ hx308_21)).trans hx308_21
                  replace hx308_22 := (HB.out.cell (World.block_lt_of_cell? w _ hx308_22)).trans hx308_22
                  have HR308_8 := Aside0.mk hi308_8
                  have HC308_8 := Aside0.mk hl308_8
                  clear hi308_8 hl308_8
                  have HR308_9 := Aside0.mk hi308_9
                  have HC308_9 := Aside0.mk hl308_9
                  clear hi308_9 hl308_9
                  have HR308_22 := Aside0.mk hi308_22
                  have HC308_22 := Aside0.mk hl308_22
                  clear hi308_22 hl308_22
                  replace p308 := eq_true p308
                  replace q308 := eq_true q308
                  have ea_ := Option.some.inj (hx306_8.symm.trans hx308_8)
                  injection ea_ with ea_ en_ ec_
                  subst ea_
                  subst ec_
                  clear en_
                  have ea_ := Option.some.inj (hx306_9.symm.trans hx308_9)
                  injection ea_ with ea_ en_ ec_
                  subst ea_
                  subst ec_
                  clear en_
                  have ea_ := Option.some.inj (hx306_22.symm.trans hx308_22)
                  injection ea_ with ea_ en_ ec_
                  subst ea_
                  subst ec_
                  clear en_
                  refine start_ (n := 16) (S := fun w' => w'.cell? (ad301.add ((x3_1).toNat * 23)) = some (.int .i64 ((rd_T35 l0 x3_1).f0.f0)) ∧ w'.cell? ⟨(ad301.add ((x3_1).toNat * 23)).block, (ad301.add ((x3_1).toNat * 23)).off + 1, none⟩ = some (.int .i64 ((rd_T35 l0 x3_1).f0.f1)) ∧ w'.cell? ⟨(ad301.add ((x3_1).toNat * 23)).block, (ad301.add ((x3_1).toNat * 23)).off + 2, none⟩ = some (.int .i64 ((rd_T35 l0 x3_1).f0.f2)) ∧ w'.cell? ⟨(ad301.add ((x3_1).toNat * 23)).block, (ad301.add ((x3_1).toNat * 23)).off + 3, none⟩ = some (.int .i64 ((rd_T35 l0 x3_1).f0.f3)) ∧ w'.cell? ⟨(ad301.add ((x3_1).toNat * 23)).block, (ad301.add ((x3_1).toNat * 23)).off + 4, none⟩ = some (.int .i64 ((rd_T35 l0 x3_1).f0.f4)) ∧ w'.cell? ⟨(ad301.add ((x3_1).toNat * 23)).block, (ad301.add ((x3_1).toNat * 23)).off + 5, none⟩ = some (.int .i64 ((rd_T35 l0 x3_1).f0.f5)) ∧ w'.cell? ⟨(ad301.add ((x3_1).toNat * 23)).block, (ad301.add ((x3_1).toNat * 23)).off + 6, none⟩ = some (.string ((rd_T35 l0 x3_1).f0.f6)) ∧ w'.cell? ⟨(ad301.add ((x3_1).toNat * 23)).block, (ad301.add ((x3_1).toNat * 23)).off + 7, none⟩ = some (.int .i64 ((rd_T35 l0 x3_1).f1.f0)) ∧ w'.cell? ⟨(ad301.add ((x3_1).toNat * 23)).block, (ad301.add ((x3_1).toNat * 23)).off + 8, none⟩ = some (.slice A306_8 ((rd_T35 l0 x3_1).f1.f1).length c306_8) ∧ w'.cell? ⟨(ad301.add ((x3_1).toNat * 23)).block, (ad301.add ((x3_1).toNat * 23)).off + 9, none⟩ = some (.slice A306_9 ((rd_T35 l0 x3_1).f1.f2).length c306_9) ∧ w'.cell? ⟨(ad301.add ((x3_1).toNat * 23)).block, (ad301.add ((x3_1).toNat * 23)).off + 10, none⟩ = some (.string ((rd_T35 l0 x3_1).f1.f3)) ∧ w'.cell? ⟨(ad301.add ((x3_1).toNat * 23)).block, (ad301.add ((x3_1).toNat * 23)).off + 11, none⟩ = some (.int .i64 ((rd_T35 l0 x3_1).f1.f4)) ∧ w'.cell? ⟨(ad301.add ((x3_1).toNat * 23)).block, (ad301.add ((x3_1).toNat * 23)).off + 12, none⟩ = some (.int .i64 ((rd_T35 l0 x3_1).f1.f5)) ∧ w'.cell? ⟨(ad301.add ((x3_1).toNat * 23)).block, (ad301.add ((x3_1).toNat * 23)).off + 13, none⟩ = some (.int .i64 ((rd_T35 l0 x3_1).f2)) ∧ w'.cell? ⟨(ad301.add ((x3_1).toNat * 23)).block, (ad301.add ((x3_1).toNat * 23)).off + 14, none⟩ = some (.string ((rd_T35 l0 x3_1).f3)) ∧ w'.cell? ⟨(ad301.add ((x3_1).toNat * 23)).block, (ad301.add ((x3_1).toNat * 23)).off + 15, none⟩ = some (.int .i64 ((rd_T35 l0 x3_1).f4)) ∧ w'.cell? ⟨(ad301.add ((x3_1).toNat * 23)).block, (ad301.add ((x3_1).toNat * 23)).off + 16, none⟩ = some (.int .i64 ((rd_T35 l0 x3_1).f5)) ∧ w'.cell? ⟨(ad301.add ((x3_1).toNat * 23)).block, (ad301.add ((x3_1).toNat * 23)).off + 17, none⟩ = some (.int .i64 ((rd_T35 l0 x3_1).f6)) ∧ w'.cell? ⟨(ad301.add ((x3_1).toNat * 23)).block, (ad301.add ((x3_1).toNat * 23)).off + 18, none⟩ = some (.int .i64 ((rd_T35 l0 x3_1).f7.f0)) ∧ w'.cell? ⟨(ad301.add ((x3_1).toNat * 23)).block, (ad301.add ((x3_1).toNat * 23)).off + 19, none⟩ = some (.int .i64 ((rd_T35 l0 x3_1).f7.f1)) ∧ w'.cell? ⟨(ad301.add ((x3_1).toNat * 23)).block, (ad301.add ((x3_1).toNat * 23)).off + 20, none⟩ = some (.int .i64 ((rd_T35 l0 x3_1).f7.f2)) ∧ w'.cell? ⟨(ad301.add ((x3_1).toNat * 23)).block, (ad301.add ((x3_1).toNat * 23)).off + 21, none⟩ = some (.int .i64 ((rd_T35 l0 x3_1).f7.f3)) ∧ w'.cell? ⟨(ad301.add ((x3_1).toNat * 23)).block, (ad301.add ((x3_1).toNat * 23)).off + 22, none⟩ = some (.slice A306_22 ((rd_T35 l0 x3_1).f8).length c306_22) ∧ w'.cell? (ad301.add ((x3_1).toNat * 23)) = some (.int .i64 ((rd_T35 l0 x3_1).f0.f0)) ∧ w'.cell? ⟨(ad301.add ((x3_1).toNat * 23)).block, (ad301.add ((x3_1).toNat * 23)).off + 1, none⟩ = some (.int .i64 ((rd_T35 l0 x3_1).f0.f1)) ∧ w'.cell? ⟨(ad301.add ((x3_1).toNat * 23)).block, (ad301.add ((x3_1).toNat * 23)).off + 2, none⟩ = some (.int .i64 ((rd_T35 l0 x3_1).f0.f2)) ∧ w'.cell? ⟨(ad301.add ((x3_1).toNat * 23)).block, (ad301.add ((x3_1).toNat * 23)).off + 3, none⟩ = some (.int .i64 ((rd_T35 l0 x3_1).f0.f3)) ∧ w'.cell? ⟨(ad301.add ((x3_1).toNat * 23)).block, (ad301.add ((x3_1).toNat * 23)).off + 4, none⟩ = some (.int .i64 ((rd_T35 l0 x3_1).f0.f4)) ∧ w'.cell? ⟨(ad301.add ((x3_1).toNat * 23)).block, (ad301.add ((x3_1).toNat * 23)).off + 5, none⟩ = some (.int .i64 ((rd_T35 l0 x3_1).f0.f5)) ∧ w'.cell? ⟨(ad301.add ((x3_1).toNat * 23)).block, (ad301.add ((x3_1).toNat * 23)).off + 6, none⟩ = some (.string ((rd_T35 l0 x3_1).f0.f6)) ∧ w'.cell? ⟨(ad301.add ((x3_1).toNat * 23)).block, (ad301.add ((x3_1).toNat * 23)).off + 7, none⟩ = some (.int .i64 ((rd_T35 l0 x3_1).f1.f0)) ∧ w'.cell? ⟨(ad301.add ((x3_1).toNat * 23)).block, (ad301.add ((x3_1).toNat * 23)).off + 8, none⟩ = some (.slice A306_8 ((rd_T35 l0 x3_1).f1.f1).length c306_8) ∧ w'.cell? ⟨(ad301.add ((x3_1).toNat * 23)).block, (ad301.add ((x3_1).toNat * 23)).off + 9, none⟩ = some (.slice A306_9 ((rd_T35 l0 x3_1).f1.f2).length c306_9) ∧ w'.cell? ⟨(ad301.add ((x3_1).toNat * 23)).block, (ad301.add ((x3_1).toNat * 23)).off + 10, none⟩ = some (.string ((rd_T35 l0 x3_1).f1.f3)) ∧ w'.cell? ⟨(ad301.add ((x3_1).toNat * 23)).block, (ad301.add ((x3_1).toNat * 23)).off + 11, none⟩ = some (.int .i64 ((rd_T35 l0 x3_1).f1.f4)) ∧ w'.cell? ⟨(ad301.add ((x3_1).toNat * 23)).block, (ad301.add ((x3_1).toNat * 23)).off + 12, none⟩ = some (.int .i64 ((rd_T35 l0 x3_1).f1.f5)) ∧ w'.cell? ⟨(ad301.add ((x3_1).toNat * 23)).block, (ad301.add ((x3_1).toNat * 23)).off + 13, none⟩ = some (.int .i64 ((rd_T35 l0 x3_1).f2)) ∧ w'.cell? ⟨(ad301.add ((x3_1).toNat * 23)).block, (ad301.add ((x3_1).toNat * 23)).off + 14, none⟩ = some (.string ((rd_T35 l0 x3_1).f3)) ∧ w'.cell? ⟨(ad301.add ((x3_1).toNat * 23)).block, (ad301.add ((x3_1).toNat * 23)).off + 15, none⟩ = some (.int .i64 ((rd_T35 l0 x3_1).f4)) ∧ w'.cell? ⟨(ad301.add ((x3_1).toNat * 23)).block, (ad301.add ((x3_1).toNat * 23)).off + 16, none⟩ = some (.int .i64 ((rd_T35 l0 x3_1).f5)) ∧ w'.cell? ⟨(ad301.add ((x3_1).toNat * 23)).block, (ad301.add ((x3_1).toNat * 23)).off + 17, none⟩ = some (.int .i64 ((rd_T35 l0 x3_1).f6)) ∧ w'.cell? ⟨(ad301.add ((x3_1).toNat * 23)).block, (ad301.add ((x3_1).toNat * 23)).off + 18, none⟩ = some (.int .i64 ((rd_T35 l0 x3_1).f7.f0)) ∧ w'.cell? ⟨(ad301.add ((x3_1).toNat * 23)).block, (ad301.add ((x3_1).toNat * 23)).off + 19, none⟩ = some (.int .i64 ((rd_T35 l0 x3_1).f7.f1)) ∧ w'.cell? ⟨(ad301.add ((x3_1).toNat * 23)).block, (ad301.add ((x3_1).toNat * 23)).off + 20, none⟩ = some (.int .i64 ((rd_T35 l0 x3_1).f7.f2)) ∧ w'.cell? ⟨(ad301.add ((x3_1).toNat * 23)).block, (ad301.add ((x3_1).toNat * 23)).off + 21, none⟩ = some (.int .i64 ((rd_T35 l0 x3_1).f7.f3)) ∧ w'.cell? ⟨(ad301.add ((x3_1).toNat * 23)).block, (ad301.add ((x3_1).toNat * 23)).off + 22, none⟩ = some (.slice A306_22 ((rd_T35 l0 x3_1).f8).length c306_22)) (ds := []) #[false, false, false, false, false, false, false, false, false, false, false, false, false, false, false, false] (by kernel_rfl) rfl rfl ⟨((HB.out.cell (World.block_lt_of_cell? w _ hw306_0)).trans hw306_0), ((HB.out.cell (World.block_lt_of_cell? w _ hw306_1)).trans hw306_1), ((HB.out.cell (World.block_lt_of_cell? w _ hw306_2)).trans hw306_2), ((HB.out.cell (World.block_lt_of_cell? w _ hw306_3)).trans hw306_3), ((HB.out.cell (World.block_lt_of_cell? w _ hw306_4)).trans hw306_4), ((HB.out.cell (World.block_lt_of_cell? w _ hw306_5)).trans hw306_5), ((HB.out.cell (World.block_lt_of_cell? w _ hw306_6)).trans hw306_6), ((HB.out.cell (World.block_lt_of_cell? w _ hw306_7)).trans hw306_7), ((HB.out.cell (World.block_lt_of_cell? w _ hw306_8)).trans hw306_8), ((HB.out.cell (World.block_lt_of_cell? w _ hw306_9)).trans hw306_9), ((HB.out.cell (World.block_lt_of_cell? w _ hw306_10)).trans hw306_10), ((HB.out.cell (World.block_lt_of_cell? w _ hw306_11)).trans hw306_11), ((HB.out.cell (World.block_lt_of_cell? w _ hw306_12)).trans hw306_12), ((HB.out.cell (World.block_lt_of_cell? w _ hw306_13)).trans hw306_13), ((HB.out.cell (World.block_lt_of_cell? w _ hw306_14)).trans hw306_14), ((HB.out.cell (World.block_lt_of_cell? w _ hw306_15)).trans hw306_15), ((HB.out.cell (World.block_lt_of_cell? w _ hw306_16)).trans hw306_16), ((HB.out.cell (World.block_lt_of_cell? w _ hw306_17)).trans hw306_17), ((HB.out.cell (World.block_lt_of_cell? w _ hw306_18)).trans hw306_18), ((HB.out.cell (World.block_lt_of_cell? w _ hw306_19)).trans hw306_19), ((HB.out.cell (World.block_lt_of_cell? w _ hw306_20)).trans hw306_20), ((HB.out.cell (World.block_lt_of_cell? w _ hw306_21)).trans hw306_21), ((HB.out.cell (World.block_lt_of_cell? w _ hw306_22)).trans hw306_22), ((HB.out.cell (World.block_lt_of_cell? w _ hw308_0)).trans hw308_0), ((HB.out.cell (World.block_lt_of_cell? w _ hw308_1)).trans hw308_1), ((HB.out.cell (World.block_lt_of_cell? w _ hw308_2)).trans hw308_2), ((HB.out.cell (World.block_lt_of_cell? w _ hw308_3)).trans hw308_3), ((HB.out.cell (World.block_lt_of_cell? w _ hw308_4)).trans hw308_4), ((HB.out.cell (World.block_lt_of_cell? w _ hw308_5)).trans hw308_5), ((HB.out.cell (World.block_lt_of_cell? w _ hw308_6)).trans hw308_6), ((HB.out.cell (World.block_lt_of_cell? w _ hw308_7)).trans hw308_7), ((HB.out.cell (World.block_lt_of_cell? w _ hw308_8)).trans hw308_8), ((HB.out.cell (World.block_lt_of_cell? w _ hw308_9)).trans hw308_9), ((HB.out.cell (World.block_lt_of_cell? w _ hw308_10)).trans hw308_10), ((HB.out.cell (World.block_lt_of_cell? w _ hw308_11)).trans hw308_11), ((HB.out.cell (World.block_lt_of_cell? w _ hw308_12)).trans hw308_12), ((HB.out.cell (World.block_lt_of_cell? w _ hw308_13)).trans hw308_13), ((HB.out.cell (World.block_lt_of_cell? w _ hw308_14)).trans hw308_14), ((HB.out.cell (World.block_lt_of_cell? w _ hw308_15)).trans hw308_15), ((HB.out.cell (World.block_lt_of_cell? w _ hw308_16)).trans hw308_16), ((HB.out.cell (World.block_lt_of_cell? w _ hw308_17)).trans hw308_17), ((HB.out.cell (World.block_lt_of_cell? w _ hw308_18)).trans hw308_18), ((HB.out.cell (World.block_lt_of_cell? w _ hw308_19)).trans hw308_19), ((HB.out.cell (World.block_lt_of_cell? w _ hw308_20)).trans hw308_20), ((HB.out.cell (World.block_lt_of_cell? w _ hw308_21)).trans hw308_21), ((HB.out.cell (World.block_lt_of_cell? w _ hw308_22)).trans hw308_22)⟩ (fun hHeld => ?_); refine with_tabW gangwaylaw20_StatFds.tab5 gangwaylaw20_StatFds.bits5 (fun HT_ HW_ => ?_)
                  generalize w12.drew = w13 at HO304 HB HR306_22 HR306_8 HR306_9 HR308_22 HR308_8 HR308_9 hx306_0 hx306_1 hx306_10 hx306_11 hx306_12 hx306_13 hx306_14 hx306_15 hx306_16 hx306_17 hx306_18 hx306_19 hx306_2 hx306_20 hx306_21 hx306_22 hx306_3 hx306_4 hx306_5 hx306_6 hx306_7 hx306_8 hx306_9 hx308_0 hx308_1 hx308_10 hx308_11 hx308_12 hx308_13 hx308_14 hx308_15 hx308_16 hx308_17 hx308_18 hx308_19 hx308_2 hx308_20 hx308_21 hx308_22 hx308_3 hx308_4 hx308_5 hx308_6 hx308_7 hx308_8 hx308_9 hHeld ⊢
                  refine pure_ (i := 0) (N := some 25) (v := ?_) (a' := ?_) #[true, false, false, false, false, false, false, false, false, false, false, false, false, false, false, false] rfl rfl (any_of HT_.out (by kernel_rfl)) (fun _ _ _ h => h) (Or.inl ⟨by rfl, ?_⟩) ?_ ?_
                  rotate_left
                  · intro w'
                    go_simp
                    with_reducible rfl
                  rotate_left
                  · simp only [Act.put, List.setIfInBounds_toArray, List.set_cons_zero, List.set_cons_succ, i64_w, i32_w]
                    rfl
                  refine pure_ (i := 1) (N := some 26) (v := ?_) (a' := ?_) #[true, true, false, false, false, false, false, false, false, false, false, false, false, false, false, false] rfl rfl (any_of HT_.out (by kernel_rfl)) (fun _ _ _ h => h) (Or.inl ⟨by rfl, ?_⟩) ?_ ?_
                  rotate_left
                  · intro w'
                    go_simp
                    with_reducible rfl
                  rotate_left
                  · simp only [Act.put, List.setIfInBounds_toArray, List.set_cons_zero, List.set_cons_succ, i64_w, i32_w]
                    rfl
                  refine pure_ (i := 2) (N := some 27) (v := ?_) (a' := ?_) #[true, true, true, false, false, false, false, false, false, false, false, false, false, false, false, false] rfl rfl (any_of HT_.out (by kernel_rfl)) (fun _ _ _ h => h) (Or.inl ⟨by rfl, ?_⟩) ?_ ?_
                  rotate_left
                  · intro w'
                    go_simp
                    with_reducible rfl
                  rotate_left
                  · simp only [Act.put, List.setIfInBounds_toArray, List.set_cons_zero, List.set_cons_succ, i64_w, i32_w]
                    rfl
                  refine pure_ (i := 3) (N := some 28) (v := ?_) (a' := ?_) #[true, true, true, true, false, false, false, false, false, false, false, false, false, false, false, false] rfl rfl (any_of HT_.out (by kernel_rfl)) (fun _ _ _ h => h) (Or.inl ⟨by rfl, ?_⟩) ?_ ?_
                  rotate_left
                  · intro w'
                    go_simp
                    with_reducible rfl
                  rotate_left
                  · simp only [Act.put, List.setIfInBounds_toArray, List.set_cons_zero, List.set_cons_succ, i64_w, i32_w]
                    rfl
                  refine pure_ (i := 4) (N := some 29) (v := ?_) (a' := ?_) #[true, true, true, true, true, false, false, false, false, false, false, false, false, false, false, false] rfl rfl (any_of HT_.out (by kernel_rfl)) (fun _ _ _ h => h) (Or.inl ⟨by rfl, ?_⟩) ?_ ?_
                  rotate_left
                  · intro w'
                    go_simp
                    with_reducible rfl
                  rotate_left
                  · simp only [Act.put, List.setIfInBounds_toArray, List.set_cons_zero, List.set_cons_succ, i64_w, i32_w]
                    rfl
                  refine pure_ (i := 5) (N := some 30) (v := ?_) (a' := ?_) #[true, true, true, true, true, true, false, false, false, false, false, false, false, false, false, false] rfl rfl (any_of HT_.out (by kernel_rfl)) (fun _ _ _ h => h) (Or.inl ⟨by rfl, ?_⟩) ?_ ?_
                  rotate_left
                  · intro w'
                    go_simp
                    with_reducible rfl
                  rotate_left
                  · simp only [Act.put, List.setIfInBounds_toArray, List.set_cons_zero, List.set_cons_succ, i64_w, i32_w]
                    rfl
                  refine pure_ (i := 8) (N := some 33) (v := ?_) (a' := ?_) #[true, true, true, true, true, true, false, false, true, false, false, false, false, false, false, false] rfl rfl (any_of HT_.out (by kernel_rfl)) (fun _ _ _ h => h) (Or.inl ⟨by rfl, ?_⟩) ?_ ?_
                  rotate_left
                  · intro w'
                    go_simp
                    with_reducible rfl
                  rotate_left
                  · simp only [Act.put, List.setIfInBounds_toArray, List.set_cons_zero, List.set_cons_succ, i64_w, i32_w]
                    rfl
                  refine pure_ (i := 9) (N := some 34) (v := ?_) (a' := ?_) #[true, true, true, true, true, true, false, false, true, true, false, false, false, false, false, false] rfl rfl (any_of HT_.out (by kernel_rfl)) (fun _ _ _ h => h) (Or.inl ⟨by rfl, ?_⟩) ?_ ?_
                  rotate_left
                  · intro w'
                    go_simp
                    with_reducible rfl
                  rotate_left
                  · simp only [Act.put, List.setIfInBounds_toArray, List.set_cons_zero, List.set_cons_succ, i64_w, i32_w]
                    rfl
                  refine pure_ (i := 10) (N := some 35) (v := ?_) (a' := ?_) #[true, true, true, true, true, true, false, false, true, true, true, false, false, false, false, false] rfl rfl (any_of HT_.out (by kernel_rfl)) (fun _ _ _ h => h) (Or.inl ⟨by rfl, ?_⟩) ?_ ?_
                  rotate_left
                  · intro w'
                    go_simp
                    with_reducible rfl
                  rotate_left
                  · simp only [Act.put, List.setIfInBounds_toArray, List.set_cons_zero, List.set_cons_succ, i64_w, i32_w]
                    rfl
                  refine pure_ (i := 11) (N := some 36) (v := ?_) (a' := ?_) #[true, true, true, true, true, true, false, false, true, true, true, true, false, false, false, false] rfl rfl (any_of HT_.out (by kernel_rfl)) (fun _ _ _ h => h) (Or.inl ⟨by rfl, ?_⟩) ?_ ?_
                  rotate_left
                  · intro w'
                    go_simp
                    with_reducible rfl
                  rotate_left
                  · simp only [Act.put, List.setIfInBounds_toArray, List.set_cons_zero, List.set_cons_succ, i64_w, i32_w]
                    rfl
                  refine take_ (i := 6) (N := some 31) (v := ?_) (a' := ?_) #[true, true, true, true, true, true, true, false, true, true, true, true, false, false, false, false] rfl rfl (take_ofW HT_.out HW_.out (by kernel_rfl)) (fun _ _ _ h => h) (Or.inl ⟨by rfl, ?_⟩) hHeld ?_ ?_
                  rotate_left
                  · rintro w' ⟨s0, s1, s2, s3, s4, s5, s6, s7, s8, s9, s10, s11, s12, s13, s14, s15, s16, s17, s18, s19, s20, s21, s22, s23, s24, s25, s26, s27, s28, s29, s30, s31, s32, s33, s34, s35, s36, s37, s38, s39, s40, s41, s42, s43, s44, s45⟩
                    go_simp
                    with_reducible rfl
                  rotate_left
                  · simp only [Act.put, List.setIfInBounds_toArray, List.set_cons_zero, List.set_cons_succ, i64_w, i32_w]
                    rfl
                  refine take_ (i := 12) (N := some 37) (v := ?_) (a' := ?_) #[true, true, true, true, true, true, true, false, true, true, true, true, true, false, false, false] rfl rfl (take_ofW HT_.out HW_.out (by kernel_rfl)) (fun _ _ _ h => h) (Or.inl ⟨by rfl, ?_⟩) hHeld ?_ ?_
                  rotate_left
                  · rintro w' ⟨s0, s1, s2, s3, s4, s5, s6, s7, s8, s9, s10, s11, s12, s13, s14, s15, s16, s17, s18, s19, s20, s21, s22, s23, s24, s25, s26, s27, s28, s29, s30, s31, s32, s33, s34, s35, s36, s37, s38, s39, s40, s41, s42, s43, s44, s45⟩
                    go_simp
                    with_reducible rfl
                  rotate_left
                  · simp only [Act.put, List.setIfInBounds_toArray, List.set_cons_zero, List.set_cons_succ, i64_w, i32_w]
                    rfl
                  refine one_ (i := 7) (N := some 32) #[true, true, true, true, true, true, true, true, true, true, true, true, true, false, false, false] rfl rfl (one_of HT_.out (by kernel_rfl)) (by decide) (fun K hK => ?_)
                  refine goes_ Try.func22 (by kernel_rfl) rfl #[.agg #[.int .i64 ((rd_T35 l0 x3_1).f0.f0), .int .i64 ((rd_T35 l0 x3_1).f0.f1), .int .i64 ((rd_T35 l0 x3_1).f0.f2), .int .i64 ((rd_T35 l0 x3_1).f0.f3), .int .i64 ((rd_T35 l0 x3_1).f0.f4), .int .i64 ((rd_T35 l0 x3_1).f0.f5), .string ((rd_T35 l0 x3_1).f0.f6)]] (by rfl) rfl rfl (by (try simp only [List.map_toArray, List.map_cons, List.map_nil]); first | done | rfl | (simp only [List.length_drop, List.length_take]; rfl)) ?_
                  with_reducible refine (gangwayref17_MayFd.calls ((rd_T35 l0 x3_1).f0.f0) ((rd_T35 l0 x3_1).f0.f1) ((rd_T35 l0 x3_1).f0.f2) ((rd_T35 l0 x3_1).f0.f3) ((rd_T35 l0 x3_1).f0.f4) ((rd_T35 l0 x3_1).f0.f5) ((rd_T35 l0 x3_1).f0.f6) t307 _ A8.out).mono ?_
                  rintro e w14 ⟨rfl, hb⟩
                  refine ⟨_, rfl, ?_⟩
                  have n0_ := Aside0.mk (Kd.R_below (by (with_reducible repeat (first | apply Kd.R_alloc | apply Kd.R_drewN | apply Kd.R_drew)); exact HO304.out) hb)
                  have n1_ := Aside0.mk (below_step (by repeat (first | (with_reducible first | exact HB.out | apply below_alloc | apply pw_below_drewN | apply below_drew1) | exact HB.out)) hb)
                  clear HO304
                  clear HB
                  have HO304 := n0_
                  have HB := n1_
                  clear n0_ n1_
                  (try clear hb)
                  (try clear hb2)
                  (try clear hk)
                  (try clear hi)
                  refine hK.out _ _ ⟨((HB.out.cell (World.block_lt_of_cell? w _ hw306_0)).trans hw306_0), ((HB.out.cell (World.block_lt_of_cell? w _ hw306_1)).trans hw306_1), ((HB.out.cell (World.block_lt_of_cell? w _ hw306_2)).trans hw306_2), ((HB.out.cell (World.block_lt_of_cell? w _ hw306_3)).trans hw306_3), ((HB.out.cell (World.block_lt_of_cell? w _ hw306_4)).trans hw306_4), ((HB.out.cell (World.block_lt_of_cell? w _ hw306_5)).trans hw306_5), ((HB.out.cell (World.block_lt_of_cell? w _ hw306_6)).trans hw306_6), ((HB.out.cell (World.block_lt_of_cell? w _ hw306_7)).trans hw306_7), ((HB.out.cell (World.block_lt_of_cell? w _ hw306_8)).trans hw306_8), ((HB.out.cell (World.block_lt_of_cell? w _ hw306_9)).trans hw306_9), ((HB.out.cell (World.block_lt_of_cell? w _ hw306_10)).trans hw306_10), ((HB.out.cell (World.block_lt_of_cell? w _ hw306_11)).trans hw306_11), ((HB.out.cell (World.block_lt_of_cell? w _ hw306_12)).trans hw306_12), ((HB.out.cell (World.block_lt_of_cell? w _ hw306_13)).trans hw306_13), ((HB.out.cell (World.block_lt_of_cell? w _ hw306_14)).trans hw306_14), ((HB.out.cell (World.block_lt_of_cell? w _ hw306_15)).trans hw306_15), ((HB.out.cell (World.block_lt_of_cell? w _ hw306_16)).trans hw306_16), ((HB.out.cell (World.block_lt_of_cell? w _ hw306_17)).trans hw306_17), ((HB.out.cell (World.block_lt_of_cell? w _ hw306_18)).trans hw306_18), ((HB.out.cell (World.block_lt_of_cell? w _ hw306_19)).trans hw306_19), ((HB.out.cell (World.block_lt_of_cell? w _ hw306_20)).trans hw306_20), ((HB.out.cell (World.block_lt_of_cell? w _ hw306_21)).trans hw306_21), ((HB.out.cell (World.block_lt_of_cell? w _ hw306_22)).trans hw306_22), ((HB.out.cell (World.block_lt_of_cell? w _ hw308_0)).trans hw308_0), ((HB.out.cell (World.block_lt_of_cell? w _ hw308_1)).trans hw308_1), ((HB.out.cell (World.block_lt_of_cell? w _ hw308_2)).trans hw308_2), ((HB.out.cell (World.block_lt_of_cell? w _ hw308_3)).trans hw308_3), ((HB.out.cell (World.block_lt_of_cell? w _ hw308_4)).trans hw308_4), ((HB.out.cell (World.block_lt_of_cell? w _ hw308_5)).trans hw308_5), ((HB.out.cell (World.block_lt_of_cell? w _ hw308_6)).trans hw308_6), ((HB.out.cell (World.block_lt_of_cell? w _ hw308_7)).trans hw308_7), ((HB.out.cell (World.block_lt_of_cell? w _ hw308_8)).trans hw308_8), ((HB.out.cell (World.block_lt_of_cell? w _ hw308_9)).trans hw308_9), ((HB.out.cell (World.block_lt_of_cell? w _ hw308_10)).trans hw308_10), ((HB.out.cell (World.block_lt_of_cell? w _ hw308_11)).trans hw308_11), ((HB.out.cell (World.block_lt_of_cell? w _ hw308_12)).trans hw308_12), ((HB.out.cell (World.block_lt_of_cell? w _ hw308_13)).trans hw308_13), ((HB.out.cell (World.block_lt_of_cell? w _ hw308_14)).trans hw308_14), ((HB.out.cell (World.block_lt_of_cell? w _ hw308_15)).trans hw308_15), ((HB.out.cell (World.block_lt_of_cell? w _ hw308_16)).trans hw308_16), ((HB.out.cell (World.block_lt_of_cell? w _ hw308_17)).trans hw308_17), ((HB.out.cell (World.block_lt_of_cell? w _ hw308_18)).trans hw308_18), ((HB.out.cell (World.block_lt_of_cell? w _ hw308_19)).trans hw308_19), ((HB.out.cell (World.block_lt_of_cell? w _ hw308_20)).trans hw308_20), ((HB.out.cell (World.block_lt_of_cell? w _ hw308_21)).trans hw308_21), ((HB.out.cell (World.block_lt_of_cell? w _ hw308_22)).trans hw308_22)⟩ (fun hHeld => ?_)
                  clear hK K
                  refine norm_ (a' := ?_) ?_ ?_
                  rotate_left
                  · show Act.put _ (some 32) _ = _
                    simp only [Act.put, List.setIfInBounds_toArray, List.set_cons_zero, List.set_cons_succ, i64_w, i32_w]
                    rfl
                  refine one_ (i := 13) (N := some 38) #[true, true, true, true, true, true, true, true, true, true, true, true, true, true, false, false] rfl rfl (one_of HT_.out (by kernel_rfl)) (by decide) (fun K hK => ?_)
                  refine goes_ Try.func23 (by kernel_rfl) rfl #[.agg #[.int .i64 ((rd_T35 l0 x3_1).f0.f0), .int .i64 ((rd_T35 l0 x3_1).f0.f1), .int .i64 ((rd_T35 l0 x3_1).f0.f2), .int .i64 ((rd_T35 l0 x3_1).f0.f3), .int .i64 ((rd_T35 l0 x3_1).f0.f4), .int .i64 ((rd_T35 l0 x3_1).f0.f5), .string ((rd_T35 l0 x3_1).f0.f6)]] (by rfl) rfl rfl (by (try simp only [List.map_toArray, List.map_cons, List.map_nil]); first | done | rfl | (simp only [List.length_drop, List.length_take]; rfl)) ?_
                  with_reducible refine (gangwayref20_Fdstat.calls kj1 ((rd_T35 l0 x3_1).f0.f0) ((rd_T35 l0 x3_1).f0.f1) ((rd_T35 l0 x3_1).f0.f2) ((rd_T35 l0 x3_1).f0.f3) ((rd_T35 l0 x3_1).f0.f4) ((rd_T35 l0 x3_1).f0.f5) ((rd_T35 l0 x3_1).f0.f6) t309 _ A9.out).mono ?_
                  rintro e w15 ⟨v310, rfl, ho0, hb⟩
                  refine ⟨_, rfl, ?_⟩
                  have n0_ := Aside0.mk (Kd.R_elder' (by (with_reducible repeat (first | apply Kd.R_alloc | apply Kd.R_drewN | apply Kd.R_drew)); exact HO304.out) (Kd.R_base ho0) hb)
                  have n1_ := Aside0.mk (Kd.R_lower (Kd.R_new' ho0 (Kd.R_lt (by (with_reducible repeat (first | apply Kd.R_alloc | apply Kd.R_drewN | apply Kd.R_drew)); exact HO304.out))) (below_size (by repeat (first | (with_reducible first | exact HB.out | apply below_alloc | apply pw_below_drewN | apply below_drew1) | exact HB.out))))
                  have n2_ := Aside0.mk (below_step (by repeat (first | (with_reducible first | exact HB.out | apply below_alloc | apply pw_below_drewN | apply below_drew1) | exact HB.out)) hb)
                  clear HO304
                  clear HB
                  have HO304 := n0_
                  have HO311 := n1_
                  have HB := n2_
                  clear n0_ n1_ n2_
                  (try clear hb)
                  (try clear hb2)
                  (try clear hk)
                  (try clear hi)
                  (try clear ho0)
                  obtain ⟨Ao16, co16, eo16⟩ := Kd.R_slice HO304.out
                  (first | subst eo16 | (injection eo16 with f1_ f2_ f3_; have f4_ := f1_.symm; have f5_ := f3_.symm; clear f1_ f2_ f3_; subst f4_; subst f5_))
                  obtain ⟨Ao17, co17, eo17⟩ := Kd.R_slice HO311.out
                  (first | subst eo17 | (injection eo17 with f1_ f2_ f3_; have f4_ := f1_.symm; have f5_ := f3_.symm; clear f1_ f2_ f3_; subst f4_; subst f5_))
                  refine hK.out _ _ ⟨((HB.out.cell (World.block_lt_of_cell? w _ hw306_0)).trans hw306_0), ((HB.out.cell (World.block_lt_of_cell? w _ hw306_1)).trans hw306_1), ((HB.out.cell (World.block_lt_of_cell? w _ hw306_2)).trans hw306_2), ((HB.out.cell (World.block_lt_of_cell? w _ hw306_3)).trans hw306_3), ((HB.out.cell (World.block_lt_of_cell? w _ hw306_4)).trans hw306_4), ((HB.out.cell (World.block_lt_of_cell? w _ hw306_5)).trans hw306_5), ((HB.out.cell (World.block_lt_of_cell? w _ hw306_6)).trans hw306_6), ((HB.out.cell (World.block_lt_of_cell? w _ hw306_7)).trans hw306_7), ((HB.out.cell (World.block_lt_of_cell? w _ hw306_8)).trans hw306_8), ((HB.out.cell (World.block_lt_of_cell? w _ hw306_9)).trans hw306_9), ((HB.out.cell (World.block_lt_of_cell? w _ hw306_10)).trans hw306_10), ((HB.out.cell (World.block_lt_of_cell? w _ hw306_11)).trans hw306_11), ((HB.out.cell (World.block_lt_of_cell? w _ hw306_12)).trans hw306_12), ((HB.out.cell (World.block_lt_of_cell? w _ hw306_13)).trans hw306_13), ((HB.out.cell (World.block_lt_of_cell? w _ hw306_14)).trans hw306_14), ((HB.out.cell (World.block_lt_of_cell? w _ hw306_15)).trans hw306_15), ((HB.out.cell (World.block_lt_of_cell? w _ hw306_16)).trans hw306_16), ((HB.out.cell (World.block_lt_of_cell? w _ hw306_17)).trans hw306_17), ((HB.out.cell (World.block_lt_of_cell? w _ hw306_18)).trans hw306_18), ((HB.out.cell (World.block_lt_of_cell? w _ hw306_19)).trans hw306_19), ((HB.out.cell (World.block_lt_of_cell? w _ hw306_20)).trans hw306_20), ((HB.out.cell (World.block_lt_of_cell? w _ hw306_21)).trans hw306_21), ((HB.out.cell (World.block_lt_of_cell? w _ hw306_22)).trans hw306_22), ((HB.out.cell (World.block_lt_of_cell? w _ hw308_0)).trans hw308_0), ((HB.out.cell (World.block_lt_of_cell? w _ hw308_1)).trans hw308_1), ((HB.out.cell (World.block_lt_of_cell? w _ hw308_2)).trans hw308_2), ((HB.out.cell (World.block_lt_of_cell? w _ hw308_3)).trans hw308_3), ((HB.out.cell (World.block_lt_of_cell? w _ hw308_4)).trans hw308_4), ((HB.out.cell (World.block_lt_of_cell? w _ hw308_5)).trans hw308_5), ((HB.out.cell (World.block_lt_of_cell? w _ hw308_6)).trans hw308_6), ((HB.out.cell (World.block_lt_of_cell? w _ hw308_7)).trans hw308_7), ((HB.out.cell (World.block_lt_of_cell? w _ hw308_8)).trans hw308_8), ((HB.out.cell (World.block_lt_of_cell? w _ hw308_9)).trans hw308_9), ((HB.out.cell (World.block_lt_of_cell? w _ hw308_10)).trans hw308_10), ((HB.out.cell (World.block_lt_of_cell? w _ hw308_11)).trans hw308_11), ((HB.out.cell (World.block_lt_of_cell? w _ hw308_12)).trans hw308_12), ((HB.out.cell (World.block_lt_of_cell? w _ hw308_13)).trans hw308_13), ((HB.out.cell (World.block_lt_of_cell? w _ hw308_14)).trans hw308_14), ((HB.out.cell (World.block_lt_of_cell? w _ hw308_15)).trans hw308_15), ((HB.out.cell (World.block_lt_of_cell? w _ hw308_16)).trans hw308_16), ((HB.out.cell (World.block_lt_of_cell? w _ hw308_17)).trans hw308_17), ((HB.out.cell (World.block_lt_of_cell? w _ hw308_18)).trans hw308_18), ((HB.out.cell (World.block_lt_of_cell? w _ hw308_19)).trans hw308_19), ((HB.out.cell (World.block_lt_of_cell? w _ hw308_20)).trans hw308_20), ((HB.out.cell (World.block_lt_of_cell? w _ hw308_21)).trans hw308_21), ((HB.out.cell (World.block_lt_of_cell? w _ hw308_22)).trans hw308_22)⟩ (fun hHeld => ?_)
                  clear hK K
                  refine norm_ (a' := ?_) ?_ ?_
                  rotate_left
                  · show Act.put _ (some 38) _ = _
                    simp only [Act.put, List.setIfInBounds_toArray, List.set_cons_zero, List.set_cons_succ, i64_w, i32_w]
                    rfl
                  refine one_ (i := 14) (N := some 39) #[true, true, true, true, true, true, true, true, true, true, true, true, true, true, true, false] rfl rfl (one_of HT_.out (by kernel_rfl)) (by decide) (fun K hK => ?_)
                  refine goes_ Try.func11 (by kernel_rfl) rfl #[.slice Ao16 t302.length co16, .int .i64 t305, .bool t307, .slice Ao17 t309.length co17] (by rfl) rfl rfl (by (try simp only [List.map_toArray, List.map_cons, List.map_nil]); first | done | rfl | (simp only [List.length_drop, List.length_take]; rfl)) ?_
                  with_reducible refine (gangwaylaw20_is.calls kj1 _ _ t302 t305 t307 _ _ t309 true _ ?side1 ?side2 ?side3 ?side4 A10.out).mono ?_
                  (case side1 => repeat (first | exact (Kd.R_reads' HO304.out).2.2 | (with_reducible refine Kd.C_alloc ?_ _) | (with_reducible refine Kd.C_drewN ?_ _) | (with_reducible refine Kd.C_drew ?_)))
                  (case side2 => exact (Kd.R_reads' HO304.out).2.1)
                  (case side3 => repeat (first | exact (Kd.R_reads' HO311.out).2.2 | (with_reducible refine Kd.C_alloc ?_ _) | (with_reducible refine Kd.C_drewN ?_ _) | (with_reducible refine Kd.C_drew ?_)))
                  (case side4 => exact (Kd.R_reads' HO311.out).2.1)
                  rintro e w' ⟨rfl, ⟨nd, rfl⟩⟩
                  refine ⟨_, rfl, ?_⟩
                  refine hK.out _ _ ⟨((HB.out.cell (World.block_lt_of_cell? w _ hw306_0)).trans hw306_0), ((HB.out.cell (World.block_lt_of_cell? w _ hw306_1)).trans hw306_1), ((HB.out.cell (World.block_lt_of_cell? w _ hw306_2)).trans hw306_2), ((HB.out.cell (World.block_lt_of_cell? w _ hw306_3)).trans hw306_3), ((HB.out.cell (World.block_lt_of_cell? w _ hw306_4)).trans hw306_4), ((HB.out.cell (World.block_lt_of_cell? w _ hw306_5)).trans hw306_5), ((HB.out.cell (World.block_lt_of_cell? w _ hw306_6)).trans hw306_6), ((HB.out.cell (World.block_lt_of_cell? w _ hw306_7)).trans hw306_7), ((HB.out.cell (World.block_lt_of_cell? w _ hw306_8)).trans hw306_8), ((HB.out.cell (World.block_lt_of_cell? w _ hw306_9)).trans hw306_9), ((HB.out.cell (World.block_lt_of_cell? w _ hw306_10)).trans hw306_10), ((HB.out.cell (World.block_lt_of_cell? w _ hw306_11)).trans hw306_11), ((HB.out.cell (World.block_lt_of_cell? w _ hw306_12)).trans hw306_12), ((HB.out.cell (World.block_lt_of_cell? w _ hw306_13)).trans hw306_13), ((HB.out.cell (World.block_lt_of_cell? w _ hw306_14)).trans hw306_14), ((HB.out.cell (World.block_lt_of_cell? w _ hw306_15)).trans hw306_15), ((HB.out.cell (World.block_lt_of_cell? w _ hw306_16)).trans hw306_16), ((HB.out.cell (World.block_lt_of_cell? w _ hw306_17)).trans hw306_17), ((HB.out.cell (World.block_lt_of_cell? w _ hw306_18)).trans hw306_18), ((HB.out.cell (World.block_lt_of_cell? w _ hw306_19)).trans hw306_19), ((HB.out.cell (World.block_lt_of_cell? w _ hw306_20)).trans hw306_20), ((HB.out.cell (World.block_lt_of_cell? w _ hw306_21)).trans hw306_21), ((HB.out.cell (World.block_lt_of_cell? w _ hw306_22)).trans hw306_22), ((HB.out.cell (World.block_lt_of_cell? w _ hw308_0)).trans hw308_0), ((HB.out.cell (World.block_lt_of_cell? w _ hw308_1)).trans hw308_1), ((HB.out.cell (World.block_lt_of_cell? w _ hw308_2)).trans hw308_2), ((HB.out.cell (World.block_lt_of_cell? w _ hw308_3)).trans hw308_3), ((HB.out.cell (World.block_lt_of_cell? w _ hw308_4)).trans hw308_4), ((HB.out.cell (World.block_lt_of_cell? w _ hw308_5)).trans hw308_5), ((HB.out.cell (World.block_lt_of_cell? w _ hw308_6)).trans hw308_6), ((HB.out.cell (World.block_lt_of_cell? w _ hw308_7)).trans hw308_7), ((HB.out.cell (World.block_lt_of_cell? w _ hw308_8)).trans hw308_8), ((HB.out.cell (World.block_lt_of_cell? w _ hw308_9)).trans hw308_9), ((HB.out.cell (World.block_lt_of_cell? w _ hw308_10)).trans hw308_10), ((HB.out.cell (World.block_lt_of_cell? w _ hw308_11)).trans hw308_11), ((HB.out.cell (World.block_lt_of_cell? w _ hw308_12)).trans hw308_12), ((HB.out.cell (World.block_lt_of_cell? w _ hw308_13)).trans hw308_13), ((HB.out.cell (World.block_lt_of_cell? w _ hw308_14)).trans hw308_14), ((HB.out.cell (World.block_lt_of_cell? w _ hw308_15)).trans hw308_15), ((HB.out.cell (World.block_lt_of_cell? w _ hw308_16)).trans hw308_16), ((HB.out.cell (World.block_lt_of_cell? w _ hw308_17)).trans hw308_17), ((HB.out.cell (World.block_lt_of_cell? w _ hw308_18)).trans hw308_18), ((HB.out.cell (World.block_lt_of_cell? w _ hw308_19)).trans hw308_19), ((HB.out.cell (World.block_lt_of_cell? w _ hw308_20)).trans hw308_20), ((HB.out.cell (World.block_lt_of_cell? w _ hw308_21)).trans hw308_21), ((HB.out.cell (World.block_lt_of_cell? w _ hw308_22)).trans hw308_22)⟩ (fun hHeld => ?_)
                  clear hK K
                  refine norm_ (a' := ?_) ?_ ?_
                  rotate_left
                  · show Act.put _ (some 39) _ = _
                    simp only [Act.put, List.setIfInBounds_toArray, List.set_cons_zero, List.set_cons_succ, i64_w, i32_w]
                    rfl
                  refine pure_ (i := 15) (N := some 40) (v := ?_) (a' := ?_) #[true, true, true, true, true, true, true, true, true, true, true, true, true, true, true, true] rfl rfl (any_of HT_.out (by kernel_rfl)) (fun _ _ _ h => h) (Or.inl ⟨by rfl, ?_⟩) ?_ ?_
                  rotate_left
                  · intro w'
                    go_simp
                    with_reducible rfl
                  rotate_left
                  · simp only [Act.put, List.setIfInBounds_toArray, List.set_cons_zero, List.set_cons_succ, i64_w, i32_w]
                    rfl
                  refine done_ (done_of HT_.out (by kernel_rfl)) ?_
                  try go_wp2
                  go_roundg kj1
                  case measure => have := HK1.out; have := HJ1.out; omega
                  case rel => exact ⟨(wrap64 (x3_1 + 1)), (by first | rfl | (simp; done) | (simp [*]; done)), H', ⟨by have := HK1.out; have := HJ1.out; omega⟩, ⟨by repeat (first | (with_reducible first | exact HB.out | apply below_alloc | apply pw_below_drewN | apply below_drew1) | exact HB.out)⟩⟩
                · replace c11 := Bool.eq_false_iff.mpr c11
                  subst c11
                  have H1 : (some false) = some r := by rw [if_neg (show ¬ (false = true) by decide)] at H; exact H
                  clear H
                  have H := H1
                  clear H1
                  obtain rfl := Option.some.inj H
                  have p301 : 0 ≤ (x3_1 : Int) := of_decide_eq_true (by first | (with_reducible assumption) | assumption)
                  have q301 : x3_1 < (l0.length : Int) := of_decide_eq_true (by first | (with_reducible assumption) | assumption)
                  obtain ⟨ad301, A301_8, c301_8, A301_9, c301_9, A301_22, c301_22, e301, hx301_0, hx301_1, hx301_2, hx301_3, hx301_4, hx301_5, hx301_6, hx301_7, hx301_8, hx301_9, hx301_10, hx301_11, hx301_12, hx301_13, hx301_14, hx301_15, hx301_16, hx301_17, hx301_18, hx301_19, hx301_20, hx301_21, hx301_22, hl301_8, hi301_8, hl301_9, hi301_9, hl301_22, hi301_22⟩ := at_T35 HR0.out x3_1 p301 q301
                  cases e301
                  replace hx301_0 := (HB.out.cell (World.block_lt_of_cell? w _ hx301_0)).trans hx301_0
                  replace hx301_1 := (HB.out.cell (World.block_lt_of_cell? w _ hx301_1)).trans hx301_1
                  replace hx301_2 := (HB.out.cell (World.block_lt_of_cell? w _ hx301_2)).trans hx301_2
                  replace hx301_3 := (HB.out.cell (World.block_lt_of_cell? w _ hx301_3)).trans hx301_3
                  replace hx301_4 := (HB.out.cell (World.block_lt_of_cell? w _ hx301_4)).trans hx301_4
                  replace hx301_5 := (HB.out.cell (World.block_lt_of_cell? w _ hx301_5)).trans hx301_5
                  replace hx301_6 := (HB.out.cell (World.block_lt_of_cell? w _ hx301_6)).trans hx301_6
                  replace hx301_7 := (HB.out.cell (World.block_lt_of_cell? w _ hx301_7)).trans hx301_7
                  replace hx301_8 := (HB.out.cell (World.block_lt_of_cell? w _ hx301_8)).trans hx301_8
                  replace hx301_9 := (HB.out.cell (World.block_lt_of_cell? w _ hx301_9)).trans hx301_9
                  replace hx301_10 := (HB.out.cell (World.block_lt_of_cell? w _ hx301_10)).trans hx301_10
                  replace hx301_11 := (HB.out.cell (World.block_lt_of_cell? w _ hx301_11)).trans hx301_11
                  replace hx301_12 := (HB.out.cell (World.block_lt_of_cell? w _ hx301_12)).trans hx301_12
                  replace hx301_13 := (HB.out.cell (World.block_lt_of_cell? w _ hx301_13)).trans hx301_13
                  replace hx301_14 := (HB.out.cell (World.block_lt_of_cell? w _ hx301_14)).trans hx301_14
                  replace hx301_15 := (HB.out.cell (World.block_lt_of_cell? w _ hx301_15)).trans hx301_15
                  replace hx301_16 := (HB.out.cell (World.block_lt_of_cell? w _ hx301_16)).trans hx301_16
                  replace hx301_17 := (HB.out.cell (World.block_lt_of_cell? w _ hx301_17)).trans hx301_17
                  replace hx301_18 := (HB.out.cell (World.block_lt_of_cell? w _ hx301_18)).trans hx301_18
                  replace hx301_19 := (HB.out.cell (World.block_lt_of_cell? w _ hx301_19)).trans hx301_19
                  replace hx301_20 := (HB.out.cell (World.block_lt_of_cell? w _ hx301_20)).trans hx301_20
                  replace hx301_21 := (HB.out.cell (World.block_lt_of_cell? w _ hx301_21)).trans hx301_21
                  replace hx301_22 := (HB.out.cell (World.block_lt_of_cell? w _ hx301_22)).trans hx301_22
                  have HR301_8 := Aside0.mk hi301_8
                  have HC301_8 := Aside0.mk hl301_8
                  clear hi301_8 hl301_8
                  have HR301_9 := Aside0.mk hi301_9
                  have HC301_9 := Aside0.mk hl301_9
                  clear hi301_9 hl301_9
                  have HR301_22 := Aside0.mk hi301_22
                  have HC301_22 := Aside0.mk hl301_22
                  clear hi301_22 hl301_22
                  replace p301 := eq_true p301
                  replace q301 := eq_true q301
                  try go_wp2_with (first | ((with_reducible refine gate_callee (f := 21) rfl ?_); refine goesL_ (some 22) rfl rfl Try.func21 (by kernel_rfl) rfl #[.agg #[.int .i64 ((rd_T35 l0 x3_1).f0.f0), .int .i64 ((rd_T35 l0 x3_1).f0.f1), .int .i64 ((rd_T35 l0 x3_1).f0.f2), .int .i64 ((rd_T35 l0 x3_1).f0.f3), .int .i64 ((rd_T35 l0 x3_1).f0.f4), .int .i64 ((rd_T35 l0 x3_1).f0.f5), .string ((rd_T35 l0 x3_1).f0.f6)]] rfl (by (try simp only [List.map_toArray, List.map_cons, List.map_nil]); first | done | rfl | (simp only [List.length_drop, List.length_take]; rfl)) ?_; (with_reducible refine (stat_Fdstat.calls kj1 ((rd_T35 l0 x3_1).f0.f0) ((rd_T35 l0 x3_1).f0.f1) ((rd_T35 l0 x3_1).f0.f2) ((rd_T35 l0 x3_1).f0.f3) ((rd_T35 l0 x3_1).f0.f4) ((rd_T35 l0 x3_1).f0.f5) ((rd_T35 l0 x3_1).f0.f6) t302 t305 _ A7.out).mono ?_); rintro e w18 ⟨v303, rfl, ho0, hb⟩; refine ⟨_, rfl, ?_⟩; have n0_ := Aside0.mk (Kd.R_lower ho0 (below_size (by repeat (first | (with_reducible first | exact HB.out | apply below_alloc | apply pw_below_drewN | apply below_drew1) | exact HB.out)))); have n1_ := Aside0.mk (below_step (by repeat (first | (with_reducible first | exact HB.out | apply below_alloc | apply pw_below_drewN | apply below_drew1) | exact HB.out)) hb); clear HB; have HO304 := n0_; have HB := n1_; clear n0_ n1_; (try clear hb); (try clear hb2); (try clear hk); (try clear hi); (try clear ho0)))
                  have n0_ := Aside0.mk (Kd.R_drew HO304.out)
                  have n1_ := Aside0.mk (below_drew1 HB.out)
                  clear HO304
                  clear HB
                  have HO304 := n0_
                  have HB := n1_
                  clear n0_ n1_
                  have p306 : 0 ≤ (x3_1 : Int) := of_decide_eq_true (by first | (with_reducible assumption) | assumption)
                  have q306 : x3_1 < (l0.length : Int) := of_decide_eq_true (by first | (with_reducible assumption) | assumption)
                  obtain ⟨ad306, A306_8, c306_8, A306_9, c306_9, A306_22, c306_22, e306, hx306_0, hx306_1, hx306_2, hx306_3, hx306_4, hx306_5, hx306_6, hx306_7, hx306_8, hx306_9, hx306_10, hx306_11, hx306_12, hx306_13, hx306_14, hx306_15, hx306_16, hx306_17, hx306_18, hx306_19, hx306_20, hx306_21, hx306_22, hl306_8, hi306_8, hl306_9, hi306_9, hl306_22, hi306_22⟩ := at_T35 HR0.out x3_1 p306 q306
                  have hw306_22 := hx306_22
                  have hw306_21 := hx306_21
                  have hw306_20 := hx306_20
                  have hw306_19 := hx306_19
                  have hw306_18 := hx306_18
                  have hw306_17 := hx306_17
                  have hw306_16 := hx306_16
                  have hw306_15 := hx306_15
                  have hw306_14 := hx306_14
                  have hw306_13 := hx306_13
                  have hw306_12 := hx306_12
                  have hw306_11 := hx306_11
                  have hw306_10 := hx306_10
                  have hw306_9 := hx306_9
                  have hw306_8 := hx306_8
                  have hw306_7 := hx306_7
                  have hw306_6 := hx306_6
                  have hw306_5 := hx306_5
                  have hw306_4 := hx306_4
                  have hw306_3 := hx306_3
                  have hw306_2 := hx306_2
                  have hw306_1 := hx306_1
                  have hw306_0 := hx306_0
                  obtain rfl : ad301 = ad306 := (by injection e306)
                  replace hx306_0 := (HB.out.cell (World.block_lt_of_cell? w _ hx306_0)).trans hx306_0
                  replace hx306_1 := (HB.out.cell (World.block_lt_of_cell? w _ hx306_1)).trans hx306_1
                  replace hx306_2 := (HB.out.cell (World.block_lt_of_cell? w _ hx306_2)).trans hx306_2
                  replace hx306_3 := (HB.out.cell (World.block_lt_of_cell? w _ hx306_3)).trans hx306_3
                  replace hx306_4 := (HB.out.cell (World.block_lt_of_cell? w _ hx306_4)).trans hx306_4
                  replace hx306_5 := (HB.out.cell (World.block_lt_of_cell? w _ hx306_5)).trans hx306_5
                  replace hx306_6 := (HB.out.cell (World.block_lt_of_cell? w _ hx306_6)).trans hx306_6
                  replace hx306_7 := (HB.out.cell (World.block_lt_of_cell? w _ hx306_7)).trans hx306_7
                  replace hx306_8 := (HB.out.cell (World.block_lt_of_cell? w _ hx306_8)).trans hx306_8
                  replace hx306_9 := (HB.out.cell (World.block_lt_of_cell? w _ hx306_9)).trans hx306_9
                  replace hx306_10 := (HB.out.cell (World.block_lt_of_cell? w _ hx306_10)).trans hx306_10
                  replace hx306_11 := (HB.out.cell (World.block_lt_of_cell? w _ hx306_11)).trans hx306_11
                  replace hx306_12 := (HB.out.cell (World.block_lt_of_cell? w _ hx306_12)).trans hx306_12
                  replace hx306_13 := (HB.out.cell (World.block_lt_of_cell? w _ hx306_13)).trans hx306_13
                  replace hx306_14 := (HB.out.cell (World.block_lt_of_cell? w _ hx306_14)).trans hx306_14
                  replace hx306_15 := (HB.out.cell (World.block_lt_of_cell? w _ hx306_15)).trans hx306_15
                  replace hx306_16 := (HB.out.cell (World.block_lt_of_cell? w _ hx306_16)).trans hx306_16
                  replace hx306_17 := (HB.out.cell (World.block_lt_of_cell? w _ hx306_17)).trans hx306_17
                  replace hx306_18 := (HB.out.cell (World.block_lt_of_cell? w _ hx306_18)).trans hx306_18
                  replace hx306_19 := (HB.out.cell (World.block_lt_of_cell? w _ hx306_19)).trans hx306_19
                  replace hx306_20 := (HB.out.cell (World.block_lt_of_cell? w _ hx306_20)).trans hx306_20
                  replace hx306_21 := (HB.out.cell (World.block_lt_of_cell? w _ hx306_21)).trans hx306_21
                  replace hx306_22 := (HB.out.cell (World.block_lt_of_cell? w _ hx306_22)).trans hx306_22
                  have HR306_8 := Aside0.mk hi306_8
                  have HC306_8 := Aside0.mk hl306_8
                  clear hi306_8 hl306_8
                  have HR306_9 := Aside0.mk hi306_9
                  have HC306_9 := Aside0.mk hl306_9
                  clear hi306_9 hl306_9
                  have HR306_22 := Aside0.mk hi306_22
                  have HC306_22 := Aside0.mk hl306_22
                  clear hi306_22 hl306_22
                  replace p306 := eq_true p306
                  replace q306 := eq_true q306
                  have p308 : 0 ≤ (x3_1 : Int) := of_decide_eq_true (by first | (with_reducible assumption) | assumption)
                  have q308 : x3_1 < (l0.length : Int) := of_decide_eq_true (by first | (with_reducible assumption) | assumption)
                  obtain ⟨ad308, A308_8, c308_8, A308_9, c308_9, A308_22, c308_22, e308, hx308_0, hx308_1, hx308_2, hx308_3, hx308_4, hx308_5, hx308_6, hx308_7, hx308_8, hx308_9, hx308_10, hx308_11, hx308_12, hx308_13, hx308_14, hx308_15, hx308_16, hx308_17, hx308_18, hx308_19, hx308_20, hx308_21, hx308_22, hl308_8, hi308_8, hl308_9, hi308_9, hl308_22, hi308_22⟩ := at_T35 HR0.out x3_1 p308 q308
                  have hw308_22 := hx308_22
                  have hw308_21 := hx308_21
                  have hw308_20 := hx308_20
                  have hw308_19 := hx308_19
                  have hw308_18 := hx308_18
                  have hw308_17 := hx308_17
                  have hw308_16 := hx308_16
                  have hw308_15 := hx308_15
                  have hw308_14 := hx308_14
                  have hw308_13 := hx308_13
                  have hw308_12 := hx308_12
                  have hw308_11 := hx308_11
                  have hw308_10 := hx308_10
                  have hw308_9 := hx308_9
                  have hw308_8 := hx308_8
                  have hw308_7 := hx308_7
                  have hw308_6 := hx308_6
                  have hw308_5 := hx308_5
                  have hw308_4 := hx308_4
                  have hw308_3 := hx308_3
                  have hw308_2 := hx308_2
                  have hw308_1 := hx308_1
                  have hw308_0 := hx308_0
                  obtain rfl : ad301 = ad308 := (by injection e308)
                  replace hx308_0 := (HB.out.cell (World.block_lt_of_cell? w _ hx308_0)).trans hx308_0
                  replace hx308_1 := (HB.out.cell (World.block_lt_of_cell? w _ hx308_1)).trans hx308_1
                  replace hx308_2 := (HB.out.cell (World.block_lt_of_cell? w _ hx308_2)).trans hx308_2
                  replace hx308_3 := (HB.out.cell (World.block_lt_of_cell? w _ hx308_3)).trans hx308_3
                  replace hx308_4 := (HB.out.cell (World.block_lt_of_cell? w _ hx308_4)).trans hx308_4
                  replace hx308_5 := (HB.out.cell (World.block_lt_of_cell? w _ hx308_5)).trans hx308_5
                  replace hx308_6 := (HB.out.cell (World.block_lt_of_cell? w _ hx308_6)).trans hx308_6
                  replace hx308_7 := (HB.out.cell (World.block_lt_of_cell? w _ hx308_7)).trans hx308_7
                  replace hx308_8 := (HB.out.cell (World.block_lt_of_cell? w _ hx308_8)).trans hx308_8
                  replace hx308_9 := (HB.out.cell (World.block_lt_of_cell? w _ hx308_9)).trans hx308_9
                  replace hx308_10 := (HB.out.cell (World.block_lt_of_cell? w _ hx308_10)).trans hx308_10
                  replace hx308_11 := (HB.out.cell (World.block_lt_of_cell? w _ hx308_11)).trans hx308_11
                  replace hx308_12 := (HB.out.cell (World.block_lt_of_cell? w _ hx308_12)).trans hx308_12
                  replace hx308_13 := (HB.out.cell (World.block_lt_of_cell? w _ hx308_13)).trans hx308_13
                  replace hx308_14 := (HB.out.cell (World.block_lt_of_cell? w _ hx308_14)).trans hx308_14
                  replace hx308_15 := (HB.out.cell (World.block_lt_of_cell? w _ hx308_15)).trans hx308_15
                  replace hx308_16 := (HB.out.cell (World.block_lt_of_cell? w _ hx308_16)).trans hx308_16
                  replace hx308_17 := (HB.out.cell (World.block_lt_of_cell? w _ hx308_17)).trans hx308_17
                  replace hx308_18 := (HB.out.cell (World.block_lt_of_cell? w _ hx308_18)).trans hx308_18
                  replace hx308_19 := (HB.out.cell (World.block_lt_of_cell? w _ hx308_19)).trans hx308_19
                  replace hx308_20 := (HB.out.cell (World.block_lt_of_cell? w _ hx308_20)).trans hx308_20
                  replace hx308_21 := (HB.out.cell (World.block_lt_of_cell? w _ hx308_21)).trans hx308_21
                  replace hx308_22 := (HB.out.cell (World.block_lt_of_cell? w _ hx308_22)).trans hx308_22
                  have HR308_8 := Aside0.mk hi308_8
                  have HC308_8 := Aside0.mk hl308_8
                  clear hi308_8 hl308_8
                  have HR308_9 := Aside0.mk hi308_9
                  have HC308_9 := Aside0.mk hl308_9
                  clear hi308_9 hl308_9
                  have HR308_22 := Aside0.mk hi308_22
                  have HC308_22 := Aside0.mk hl308_22
                  clear hi308_22 hl308_22
                  replace p308 := eq_true p308
                  replace q308 := eq_true q308
                  have ea_ := Option.some.inj (hx306_8.symm.trans hx308_8)
                  injection ea_ with ea_ en_ ec_
                  subst ea_
                  subst ec_
                  clear en_
                  have ea_ := Option.some.inj (hx306_9.symm.trans hx308_9)
                  injection ea_ with ea_ en_ ec_
                  subst ea_
                  subst ec_
                  clear en_
                  have ea_ := Option.some.inj (hx306_22.symm.trans hx308_22)
                  injection ea_ with ea_ en_ ec_
                  subst ea_
                  subst ec_
                  clear en_
                  refine start_ (n := 16) (S := fun w' => w'.cell? (ad301.add ((x3_1).toNat * 23)) = some (.int .i64 ((rd_T35 l0 x3_1).f0.f0)) ∧ w'.cell? ⟨(ad301.add ((x3_1).toNat * 23)).block, (ad301.add ((x3_1).toNat * 23)).off + 1, none⟩ = some (.int .i64 ((rd_T35 l0 x3_1).f0.f1)) ∧ w'.cell? ⟨(ad301.add ((x3_1).toNat * 23)).block, (ad301.add ((x3_1).toNat * 23)).off + 2, none⟩ = some (.int .i64 ((rd_T35 l0 x3_1).f0.f2)) ∧ w'.cell? ⟨(ad301.add ((x3_1).toNat * 23)).block, (ad301.add ((x3_1).toNat * 23)).off + 3, none⟩ = some (.int .i64 ((rd_T35 l0 x3_1).f0.f3)) ∧ w'.cell? ⟨(ad301.add ((x3_1).toNat * 23)).block, (ad301.add ((x3_1).toNat * 23)).off + 4, none⟩ = some (.int .i64 ((rd_T35 l0 x3_1).f0.f4)) ∧ w'.cell? ⟨(ad301.add ((x3_1).toNat * 23)).block, (ad301.add ((x3_1).toNat * 23)).off + 5, none⟩ = some (.int .i64 ((rd_T35 l0 x3_1).f0.f5)) ∧ w'.cell? ⟨(ad301.add ((x3_1).toNat * 23)).block, (ad301.add ((x3_1).toNat * 23)).off + 6, none⟩ = some (.string ((rd_T35 l0 x3_1).f0.f6)) ∧ w'.cell? ⟨(ad301.add ((x3_1).toNat * 23)).block, (ad301.add ((x3_1).toNat * 23)).off + 7, none⟩ = some (.int .i64 ((rd_T35 l0 x3_1).f1.f0)) ∧ w'.cell? ⟨(ad301.add ((x3_1).toNat * 23)).block, (ad301.add ((x3_1).toNat * 23)).off + 8, none⟩ = some (.slice A306_8 ((rd_T35 l0 x3_1).f1.f1).length c306_8) ∧ w'.cell? ⟨(ad301.add ((x3_1).toNat * 23)).block, (ad301.add ((x3_1).toNat * 23)).off + 9, none⟩ = some (.slice A306_9 ((rd_T35 l0 x3_1).f1.f2).length c306_9) ∧ w'.cell? ⟨(ad301.add ((x3_1).toNat * 23)).block, (ad301.add ((x3_1).toNat * 23)).off + 10, none⟩ = some (.string ((rd_T35 l0 x3_1).f1.f3)) ∧ w'.cell? ⟨(ad301.add ((x3_1).toNat * 23)).block, (ad301.add ((x3_1).toNat * 23)).off + 11, none⟩ = some (.int .i64 ((rd_T35 l0 x3_1).f1.f4)) ∧ w'.cell? ⟨(ad301.add ((x3_1).toNat * 23)).block, (ad301.add ((x3_1).toNat * 23)).off + 12, none⟩ = some (.int .i64 ((rd_T35 l0 x3_1).f1.f5)) ∧ w'.cell? ⟨(ad301.add ((x3_1).toNat * 23)).block, (ad301.add ((x3_1).toNat * 23)).off + 13, none⟩ = some (.int .i64 ((rd_T35 l0 x3_1).f2)) ∧ w'.cell? ⟨(ad301.add ((x3_1).toNat * 23)).block, (ad301.add ((x3_1).toNat * 23)).off + 14, none⟩ = some (.string ((rd_T35 l0 x3_1).f3)) ∧ w'.cell? ⟨(ad301.add ((x3_1).toNat * 23)).block, (ad301.add ((x3_1).toNat * 23)).off + 15, none⟩ = some (.int .i64 ((rd_T35 l0 x3_1).f4)) ∧ w'.cell? ⟨(ad301.add ((x3_1).toNat * 23)).block, (ad301.add ((x3_1).toNat * 23)).off + 16, none⟩ = some (.int .i64 ((rd_T35 l0 x3_1).f5)) ∧ w'.cell? ⟨(ad301.add ((x3_1).toNat * 23)).block, (ad301.add ((x3_1).toNat * 23)).off + 17, none⟩ = some (.int .i64 ((rd_T35 l0 x3_1).f6)) ∧ w'.cell? ⟨(ad301.add ((x3_1).toNat * 23)).block, (ad301.add ((x3_1).toNat * 23)).off + 18, none⟩ = some (.int .i64 ((rd_T35 l0 x3_1).f7.f0)) ∧ w'.cell? ⟨(ad301.add ((x3_1).toNat * 23)).block, (ad301.add ((x3_1).toNat * 23)).off + 19, none⟩ = some (.int .i64 ((rd_T35 l0 x3_1).f7.f1)) ∧ w'.cell? ⟨(ad301.add ((x3_1).toNat * 23)).block, (ad301.add ((x3_1).toNat * 23)).off + 20, none⟩ = some (.int .i64 ((rd_T35 l0 x3_1).f7.f2)) ∧ w'.cell? ⟨(ad301.add ((x3_1).toNat * 23)).block, (ad301.add ((x3_1).toNat * 23)).off + 21, none⟩ = some (.int .i64 ((rd_T35 l0 x3_1).f7.f3)) ∧ w'.cell? ⟨(ad301.add ((x3_1).toNat * 23)).block, (ad301.add ((x3_1).toNat * 23)).off + 22, none⟩ = some (.slice A306_22 ((rd_T35 l0 x3_1).f8).length c306_22) ∧ w'.cell? (ad301.add ((x3_1).toNat * 23)) = some (.int .i64 ((rd_T35 l0 x3_1).f0.f0)) ∧ w'.cell? ⟨(ad301.add ((x3_1).toNat * 23)).block, (ad301.add ((x3_1).toNat * 23)).off + 1, none⟩ = some (.int .i64 ((rd_T35 l0 x3_1).f0.f1)) ∧ w'.cell? ⟨(ad301.add ((x3_1).toNat * 23)).block, (ad301.add ((x3_1).toNat * 23)).off + 2, none⟩ = some (.int .i64 ((rd_T35 l0 x3_1).f0.f2)) ∧ w'.cell? ⟨(ad301.add ((x3_1).toNat * 23)).block, (ad301.add ((x3_1).toNat * 23)).off + 3, none⟩ = some (.int .i64 ((rd_T35 l0 x3_1).f0.f3)) ∧ w'.cell? ⟨(ad301.add ((x3_1).toNat * 23)).block, (ad301.add ((x3_1).toNat * 23)).off + 4, none⟩ = some (.int .i64 ((rd_T35 l0 x3_1).f0.f4)) ∧ w'.cell? ⟨(ad301.add ((x3_1).toNat * 23)).block, (ad301.add ((x3_1).toNat * 23)).off + 5, none⟩ = some (.int .i64 ((rd_T35 l0 x3_1).f0.f5)) ∧ w'.cell? ⟨(ad301.add ((x3_1).toNat * 23)).block, (ad301.add ((x3_1).toNat * 23)).off + 6, none⟩ = some (.string ((rd_T35 l0 x3_1).f0.f6)) ∧ w'.cell? ⟨(ad301.add ((x3_1).toNat * 23)).block, (ad301.add ((x3_1).toNat * 23)).off + 7, none⟩ = some (.int .i64 ((rd_T35 l0 x3_1).f1.f0)) ∧ w'.cell? ⟨(ad301.add ((x3_1).toNat * 23)).block, (ad301.add ((x3_1).toNat * 23)).off + 8, none⟩ = some (.slice A306_8 ((rd_T35 l0 x3_1).f1.f1).length c306_8) ∧ w'.cell? ⟨(ad301.add ((x3_1).toNat * 23)).block, (ad301.add ((x3_1).toNat * 23)).off + 9, none⟩ = some (.slice A306_9 ((rd_T35 l0 x3_1).f1.f2).length c306_9) ∧ w'.cell? ⟨(ad301.add ((x3_1).toNat * 23)).block, (ad301.add ((x3_1).toNat * 23)).off + 10, none⟩ = some (.string ((rd_T35 l0 x3_1).f1.f3)) ∧ w'.cell? ⟨(ad301.add ((x3_1).toNat * 23)).block, (ad301.add ((x3_1).toNat * 23)).off + 11, none⟩ = some (.int .i64 ((rd_T35 l0 x3_1).f1.f4)) ∧ w'.cell? ⟨(ad301.add ((x3_1).toNat * 23)).block, (ad301.add ((x3_1).toNat * 23)).off + 12, none⟩ = some (.int .i64 ((rd_T35 l0 x3_1).f1.f5)) ∧ w'.cell? ⟨(ad301.add ((x3_1).toNat * 23)).block, (ad301.add ((x3_1).toNat * 23)).off + 13, none⟩ = some (.int .i64 ((rd_T35 l0 x3_1).f2)) ∧ w'.cell? ⟨(ad301.add ((x3_1).toNat * 23)).block, (ad301.add ((x3_1).toNat * 23)).off + 14, none⟩ = some (.string ((rd_T35 l0 x3_1).f3)) ∧ w'.cell? ⟨(ad301.add ((x3_1).toNat * 23)).block, (ad301.add ((x3_1).toNat * 23)).off + 15, none⟩ = some (.int .i64 ((rd_T35 l0 x3_1).f4)) ∧ w'.cell? ⟨(ad301.add ((x3_1).toNat * 23)).block, (ad301.add ((x3_1).toNat * 23)).off + 16, none⟩ = some (.int .i64 ((rd_T35 l0 x3_1).f5)) ∧ w'.cell? ⟨(ad301.add ((x3_1).toNat * 23)).block, (ad301.add ((x3_1).toNat * 23)).off + 17, none⟩ = some (.int .i64 ((rd_T35 l0 x3_1).f6)) ∧ w'.cell? ⟨(ad301.add ((x3_1).toNat * 23)).block, (ad301.add ((x3_1).toNat * 23)).off + 18, none⟩ = some (.int .i64 ((rd_T35 l0 x3_1).f7.f0)) ∧ w'.cell? ⟨(ad301.add ((x3_1).toNat * 23)).block, (ad301.add ((x3_1).toNat * 23)).off + 19, none⟩ = some (.int .i64 ((rd_T35 l0 x3_1).f7.f1)) ∧ w'.cell? ⟨(ad301.add ((x3_1).toNat * 23)).block, (ad301.add ((x3_1).toNat * 23)).off + 20, none⟩ = some (.int .i64 ((rd_T35 l0 x3_1).f7.f2)) ∧ w'.cell? ⟨(ad301.add ((x3_1).toNat * 23)).block, (ad301.add ((x3_1).toNat * 23)).off + 21, none⟩ = some (.int .i64 ((rd_T35 l0 x3_1).f7.f3)) ∧ w'.cell? ⟨(ad301.add ((x3_1).toNat * 23)).block, (ad301.add ((x3_1).toNat * 23)).off + 22, none⟩ = some (.slice A306_22 ((rd_T35 l0 x3_1).f8).length c306_22)) (ds := []) #[false, false, false, false, false, false, false, false, false, false, false, false, false, false, false, false] (by kernel_rfl) rfl rfl ⟨((HB.out.cell (World.block_lt_of_cell? w _ hw306_0)).trans hw306_0), ((HB.out.cell (World.block_lt_of_cell? w _ hw306_1)).trans hw306_1), ((HB.out.cell (World.block_lt_of_cell? w _ hw306_2)).trans hw306_2), ((HB.out.cell (World.block_lt_of_cell? w _ hw306_3)).trans hw306_3), ((HB.out.cell (World.block_lt_of_cell? w _ hw306_4)).trans hw306_4), ((HB.out.cell (World.block_lt_of_cell? w _ hw306_5)).trans hw306_5), ((HB.out.cell (World.block_lt_of_cell? w _ hw306_6)).trans hw306_6), ((HB.out.cell (World.block_lt_of_cell? w _ hw306_7)).trans hw306_7), ((HB.out.cell (World.block_lt_of_cell? w _ hw306_8)).trans hw306_8), ((HB.out.cell (World.block_lt_of_cell? w _ hw306_9)).trans hw306_9), ((HB.out.cell (World.block_lt_of_cell? w _ hw306_10)).trans hw306_10), ((HB.out.cell (World.block_lt_of_cell? w _ hw306_11)).trans hw306_11), ((HB.out.cell (World.block_lt_of_cell? w _ hw306_12)).trans hw306_12), ((HB.out.cell (World.block_lt_of_cell? w _ hw306_13)).trans hw306_13), ((HB.out.cell (World.block_lt_of_cell? w _ hw306_14)).trans hw306_14), ((HB.out.cell (World.block_lt_of_cell? w _ hw306_15)).trans hw306_15), ((HB.out.cell (World.block_lt_of_cell? w _ hw306_16)).trans hw306_16), ((HB.out.cell (World.block_lt_of_cell? w _ hw306_17)).trans hw306_17), ((HB.out.cell (World.block_lt_of_cell? w _ hw306_18)).trans hw306_18), ((HB.out.cell (World.block_lt_of_cell? w _ hw306_19)).trans hw306_19), ((HB.out.cell (World.block_lt_of_cell? w _ hw306_20)).trans hw306_20), ((HB.out.cell (World.block_lt_of_cell? w _ hw306_21)).trans hw306_21), ((HB.out.cell (World.block_lt_of_cell? w _ hw306_22)).trans hw306_22), ((HB.out.cell (World.block_lt_of_cell? w _ hw308_0)).trans hw308_0), ((HB.out.cell (World.block_lt_of_cell? w _ hw308_1)).trans hw308_1), ((HB.out.cell (World.block_lt_of_cell? w _ hw308_2)).trans hw308_2), ((HB.out.cell (World.block_lt_of_cell? w _ hw308_3)).trans hw308_3), ((HB.out.cell (World.block_lt_of_cell? w _ hw308_4)).trans hw308_4), ((HB.out.cell (World.block_lt_of_cell? w _ hw308_5)).trans hw308_5), ((HB.out.cell (World.block_lt_of_cell? w _ hw308_6)).trans hw308_6), ((HB.out.cell (World.block_lt_of_cell? w _ hw308_7)).trans hw308_7), ((HB.out.cell (World.block_lt_of_cell? w _ hw308_8)).trans hw308_8), ((HB.out.cell (World.block_lt_of_cell? w _ hw308_9)).trans hw308_9), ((HB.out.cell (World.block_lt_of_cell? w _ hw308_10)).trans hw308_10), ((HB.out.cell (World.block_lt_of_cell? w _ hw308_11)).trans hw308_11), ((HB.out.cell (World.block_lt_of_cell? w _ hw308_12)).trans hw308_12), ((HB.out.cell (World.block_lt_of_cell? w _ hw308_13)).trans hw308_13), ((HB.out.cell (World.block_lt_of_cell? w _ hw308_14)).trans hw308_14), ((HB.out.cell (World.block_lt_of_cell? w _ hw308_15)).trans hw308_15), ((HB.out.cell (World.block_lt_of_cell? w _ hw308_16)).trans hw308_16), ((HB.out.cell (World.block_lt_of_cell? w _ hw308_17)).trans hw308_17), ((HB.out.cell (World.block_lt_of_cell? w _ hw308_18)).trans hw308_18), ((HB.out.cell (World.block_lt_of_cell? w _ hw308_19)).trans hw308_19), ((HB.out.cell (World.block_lt_of_cell? w _ hw308_20)).trans hw308_20), ((HB.out.cell (World.block_lt_of_cell? w _ hw308_21)).trans hw308_21), ((HB.out.cell (World.block_lt_of_cell? w _ hw308_22)).trans hw308_22)⟩ (fun hHeld => ?_); refine with_tabW gangwaylaw20_StatFds.tab5 gangwaylaw20_StatFds.bits5 (fun HT_ HW_ => ?_)
                  generalize w18.drew = w19 at HO304 HB HR306_22 HR306_8 HR306_9 HR308_22 HR308_8 HR308_9 hx306_0 hx306_1 hx306_10 hx306_11 hx306_12 hx306_13 hx306_14 hx306_15 hx306_16 hx306_17 hx306_18 hx306_19 hx306_2 hx306_20 hx306_21 hx306_22 hx306_3 hx306_4 hx306_5 hx306_6 hx306_7 hx306_8 hx306_9 hx308_0 hx308_1 hx308_10 hx308_11 hx308_12 hx308_13 hx308_14 hx308_15 hx308_16 hx308_17 hx308_18 hx308_19 hx308_2 hx308_20 hx308_21 hx308_22 hx308_3 hx308_4 hx308_5 hx308_6 hx308_7 hx308_8 hx308_9 hHeld ⊢
                  refine pure_ (i := 0) (N := some 25) (v := ?_) (a' := ?_) #[true, false, false, false, false, false, false, false, false, false, false, false, false, false, false, false] rfl rfl (any_of HT_.out (by kernel_rfl)) (fun _ _ _ h => h) (Or.inl ⟨by rfl, ?_⟩) ?_ ?_
                  rotate_left
                  · intro w'
                    go_simp
                    with_reducible rfl
                  rotate_left
                  · simp only [Act.put, List.setIfInBounds_toArray, List.set_cons_zero, List.set_cons_succ, i64_w, i32_w]
                    rfl
                  refine pure_ (i := 1) (N := some 26) (v := ?_) (a' := ?_) #[true, true, false, false, false, false, false, false, false, false, false, false, false, false, false, false] rfl rfl (any_of HT_.out (by kernel_rfl)) (fun _ _ _ h => h) (Or.inl ⟨by rfl, ?_⟩) ?_ ?_
                  rotate_left
                  · intro w'
                    go_simp
                    with_reducible rfl
                  rotate_left
                  · simp only [Act.put, List.setIfInBounds_toArray, List.set_cons_zero, List.set_cons_succ, i64_w, i32_w]
                    rfl
                  refine pure_ (i := 2) (N := some 27) (v := ?_) (a' := ?_) #[true, true, true, false, false, false, false, false, false, false, false, false, false, false, false, false] rfl rfl (any_of HT_.out (by kernel_rfl)) (fun _ _ _ h => h) (Or.inl ⟨by rfl, ?_⟩) ?_ ?_
                  rotate_left
                  · intro w'
                    go_simp
                    with_reducible rfl
                  rotate_left
                  · simp only [Act.put, List.setIfInBounds_toArray, List.set_cons_zero, List.set_cons_succ, i64_w, i32_w]
                    rfl
                  refine pure_ (i := 3) (N := some 28) (v := ?_) (a' := ?_) #[true, true, true, true, false, false, false, false, false, false, false, false, false, false, false, false] rfl rfl (any_of HT_.out (by kernel_rfl)) (fun _ _ _ h => h) (Or.inl ⟨by rfl, ?_⟩) ?_ ?_
                  rotate_left
                  · intro w'
                    go_simp
                    with_reducible rfl
                  rotate_left
                  · simp only [Act.put, List.setIfInBounds_toArray, List.set_cons_zero, List.set_cons_succ, i64_w, i32_w]
                    rfl
                  refine pure_ (i := 4) (N := some 29) (v := ?_) (a' := ?_) #[true, true, true, true, true, false, false, false, false, false, false, false, false, false, false, false] rfl rfl (any_of HT_.out (by kernel_rfl)) (fun _ _ _ h => h) (Or.inl ⟨by rfl, ?_⟩) ?_ ?_
                  rotate_left
                  · intro w'
                    go_simp
                    with_reducible rfl
                  rotate_left
                  · simp only [Act.put, List.setIfInBounds_toArray, List.set_cons_zero, List.set_cons_succ, i64_w, i32_w]
                    rfl
                  refine pure_ (i := 5) (N := some 30) (v := ?_) (a' := ?_) #[true, true, true, true, true, true, false, false, false, false, false, false, false, false, false, false] rfl rfl (any_of HT_.out (by kernel_rfl)) (fun _ _ _ h => h) (Or.inl ⟨by rfl, ?_⟩) ?_ ?_
                  rotate_left
                  · intro w'
                    go_simp
                    with_reducible rfl
                  rotate_left
                  · simp only [Act.put, List.setIfInBounds_toArray, List.set_cons_zero, List.set_cons_succ, i64_w, i32_w]
                    rfl
                  refine pure_ (i := 8) (N := some 33) (v := ?_) (a' := ?_) #[true, true, true, true, true, true, false, false, true, false, false, false, false, false, false, false] rfl rfl (any_of HT_.out (by kernel_rfl)) (fun _ _ _ h => h) (Or.inl ⟨by rfl, ?_⟩) ?_ ?_
                  rotate_left
                  · intro w'
                    go_simp
                    with_reducible rfl
                  rotate_left
                  · simp only [Act.put, List.setIfInBounds_toArray, List.set_cons_zero, List.set_cons_succ, i64_w, i32_w]
                    rfl
                  refine pure_ (i := 9) (N := some 34) (v := ?_) (a' := ?_) #[true, true, true, true, true, true, false, false, true, true, false, false, false, false, false, false] rfl rfl (any_of HT_.out (by kernel_rfl)) (fun _ _ _ h => h) (Or.inl ⟨by rfl, ?_⟩) ?_ ?_
                  rotate_left
                  · intro w'
                    go_simp
                    with_reducible rfl
                  rotate_left
                  · simp only [Act.put, List.setIfInBounds_toArray, List.set_cons_zero, List.set_cons_succ, i64_w, i32_w]
                    rfl
                  refine pure_ (i := 10) (N := some 35) (v := ?_) (a' := ?_) #[true, true, true, true, true, true, false, false, true, true, true, false, false, false, false, false] rfl rfl (any_of HT_.out (by kernel_rfl)) (fun _ _ _ h => h) (Or.inl ⟨by rfl, ?_⟩) ?_ ?_
                  rotate_left
                  · intro w'
                    go_simp
                    with_reducible rfl
                  rotate_left
                  · simp only [Act.put, List.setIfInBounds_toArray, List.set_cons_zero, List.set_cons_succ, i64_w, i32_w]
                    rfl
                  refine pure_ (i := 11) (N := some 36) (v := ?_) (a' := ?_) #[true, true, true, true, true, true, false, false, true, true, true, true, false, false, false, false] rfl rfl (any_of HT_.out (by kernel_rfl)) (fun _ _ _ h => h) (Or.inl ⟨by rfl, ?_⟩) ?_ ?_
                  rotate_left
                  · intro w'
                    go_simp
                    with_reducible rfl
                  rotate_left
                  · simp only [Act.put, List.setIfInBounds_toArray, List.set_cons_zero, List.set_cons_succ, i64_w, i32_w]
                    rfl
                  refine take_ (i := 6) (N := some 31) (v := ?_) (a' := ?_) #[true, true, true, true, true, true, true, false, true, true, true, true, false, false, false, false] rfl rfl (take_ofW HT_.out HW_.out (by kernel_rfl)) (fun _ _ _ h => h) (Or.inl ⟨by rfl, ?_⟩) hHeld ?_ ?_
                  rotate_left
                  · rintro w' ⟨s0, s1, s2, s3, s4, s5, s6, s7, s8, s9, s10, s11, s12, s13, s14, s15, s16, s17, s18, s19, s20, s21, s22, s23, s24, s25, s26, s27, s28, s29, s30, s31, s32, s33, s34, s35, s36, s37, s38, s39, s40, s41, s42, s43, s44, s45⟩
                    go_simp
                    with_reducible rfl
                  rotate_left
                  · simp only [Act.put, List.setIfInBounds_toArray, List.set_cons_zero, List.set_cons_succ, i64_w, i32_w]
                    rfl
                  refine take_ (i := 12) (N := some 37) (v := ?_) (a' := ?_) #[true, true, true, true, true, true, true, false, true, true, true, true, true, false, false, false] rfl rfl (take_ofW HT_.out HW_.out (by kernel_rfl)) (fun _ _ _ h => h) (Or.inl ⟨by rfl, ?_⟩) hHeld ?_ ?_
                  rotate_left
                  · rintro w' ⟨s0, s1, s2, s3, s4, s5, s6, s7, s8, s9, s10, s11, s12, s13, s14, s15, s16, s17, s18, s19, s20, s21, s22, s23, s24, s25, s26, s27, s28, s29, s30, s31, s32, s33, s34, s35, s36, s37, s38, s39, s40, s41, s42, s43, s44, s45⟩
                    go_simp
                    with_reducible rfl
                  rotate_left
                  · simp only [Act.put, List.setIfInBounds_toArray, List.set_cons_zero, List.set_cons_succ, i64_w, i32_w]
                    rfl
                  refine one_ (i := 7) (N := some 32) #[true, true, true, true, true, true, true, true, true, true, true, true, true, false, false, false] rfl rfl (one_of HT_.out (by kernel_rfl)) (by decide) (fun K hK => ?_)
                  refine goes_ Try.func22 (by kernel_rfl) rfl #[.agg #[.int .i64 ((rd_T35 l0 x3_1).f0.f0), .int .i64 ((rd_T35 l0 x3_1).f0.f1), .int .i64 ((rd_T35 l0 x3_1).f0.f2), .int .i64 ((rd_T35 l0 x3_1).f0.f3), .int .i64 ((rd_T35 l0 x3_1).f0.f4), .int .i64 ((rd_T35 l0 x3_1).f0.f5), .string ((rd_T35 l0 x3_1).f0.f6)]] (by rfl) rfl rfl (by (try simp only [List.map_toArray, List.map_cons, List.map_nil]); first | done | rfl | (simp only [List.length_drop, List.length_take]; rfl)) ?_
                  with_reducible refine (gangwayref17_MayFd.calls ((rd_T35 l0 x3_1).f0.f0) ((rd_T35 l0 x3_1).f0.f1) ((rd_T35 l0 x3_1).f0.f2) ((rd_T35 l0 x3_1).f0.f3) ((rd_T35 l0 x3_1).f0.f4) ((rd_T35 l0 x3_1).f0.f5) ((rd_T35 l0 x3_1).f0.f6) t307 _ A8.out).mono ?_
                  rintro e w20 ⟨rfl, hb⟩
                  refine ⟨_, rfl, ?_⟩
                  have n0_ := Aside0.mk (Kd.R_below (by (with_reducible repeat (first | apply Kd.R_alloc | apply Kd.R_drewN | apply Kd.R_drew)); exact HO304.out) hb)
                  have n1_ := Aside0.mk (below_step (by repeat (first | (with_reducible first | exact HB.out | apply below_alloc | apply pw_below_drewN | apply below_drew1) | exact HB.out)) hb)
                  clear HO304
                  clear HB
                  have HO304 := n0_
                  have HB := n1_
                  clear n0_ n1_
                  (try clear hb)
                  (try clear hb2)
                  (try clear hk)
                  (try clear hi)
                  refine hK.out _ _ ⟨((HB.out.cell (World.block_lt_of_cell? w _ hw306_0)).trans hw306_0), ((HB.out.cell (World.block_lt_of_cell? w _ hw306_1)).trans hw306_1), ((HB.out.cell (World.block_lt_of_cell? w _ hw306_2)).trans hw306_2), ((HB.out.cell (World.block_lt_of_cell? w _ hw306_3)).trans hw306_3), ((HB.out.cell (World.block_lt_of_cell? w _ hw306_4)).trans hw306_4), ((HB.out.cell (World.block_lt_of_cell? w _ hw306_5)).trans hw306_5), ((HB.out.cell (World.block_lt_of_cell? w _ hw306_6)).trans hw306_6), ((HB.out.cell (World.block_lt_of_cell? w _ hw306_7)).trans hw306_7), ((HB.out.cell (World.block_lt_of_cell? w _ hw306_8)).trans hw306_8), ((HB.out.cell (World.block_lt_of_cell? w _ hw306_9)).trans hw306_9), ((HB.out.cell (World.block_lt_of_cell? w _ hw306_10)).trans hw306_10), ((HB.out.cell (World.block_lt_of_cell? w _ hw306_11)).trans hw306_11), ((HB.out.cell (World.block_lt_of_cell? w _ hw306_12)).trans hw306_12), ((HB.out.cell (World.block_lt_of_cell? w _ hw306_13)).trans hw306_13), ((HB.out.cell (World.block_lt_of_cell? w _ hw306_14)).trans hw306_14), ((HB.out.cell (World.block_lt_of_cell? w _ hw306_15)).trans hw306_15), ((HB.out.cell (World.block_lt_of_cell? w _ hw306_16)).trans hw306_16), ((HB.out.cell (World.block_lt_of_cell? w _ hw306_17)).trans hw306_17), ((HB.out.cell (World.block_lt_of_cell? w _ hw306_18)).trans hw306_18), ((HB.out.cell (World.block_lt_of_cell? w _ hw306_19)).trans hw306_19), ((HB.out.cell (World.block_lt_of_cell? w _ hw306_20)).trans hw306_20), ((HB.out.cell (World.block_lt_of_cell? w _ hw306_21)).trans hw306_21), ((HB.out.cell (World.block_lt_of_cell? w _ hw306_22)).trans hw306_22), ((HB.out.cell (World.block_lt_of_cell? w _ hw308_0)).trans hw308_0), ((HB.out.cell (World.block_lt_of_cell? w _ hw308_1)).trans hw308_1), ((HB.out.cell (World.block_lt_of_cell? w _ hw308_2)).trans hw308_2), ((HB.out.cell (World.block_lt_of_cell? w _ hw308_3)).trans hw308_3), ((HB.out.cell (World.block_lt_of_cell? w _ hw308_4)).trans hw308_4), ((HB.out.cell (World.block_lt_of_cell? w _ hw308_5)).trans hw308_5), ((HB.out.cell (World.block_lt_of_cell? w _ hw308_6)).trans hw308_6), ((HB.out.cell (World.block_lt_of_cell? w _ hw308_7)).trans hw308_7), ((HB.out.cell (World.block_lt_of_cell? w _ hw308_8)).trans hw308_8), ((HB.out.cell (World.block_lt_of_cell? w _ hw308_9)).trans hw308_9), ((HB.out.cell (World.block_lt_of_cell? w _ hw308_10)).trans hw308_10), ((HB.out.cell (World.block_lt_of_cell? w _ hw308_11)).trans hw308_11), ((HB.out.cell (World.block_lt_of_cell? w _ hw308_12)).trans hw308_12), ((HB.out.cell (World.block_lt_of_cell? w _ hw308_13)).trans hw308_13), ((HB.out.cell (World.block_lt_of_cell? w _ hw308_14)).trans hw308_14), ((HB.out.cell (World.block_lt_of_cell? w _ hw308_15)).trans hw308_15), ((HB.out.cell (World.block_lt_of_cell? w _ hw308_16)).trans hw308_16), ((HB.out.cell (World.block_lt_of_cell? w _ hw308_17)).trans hw308_17), ((HB.out.cell (World.block_lt_of_cell? w _ hw308_18)).trans hw308_18), ((HB.out.cell (World.block_lt_of_cell? w _ hw308_19)).trans hw308_19), ((HB.out.cell (World.block_lt_of_cell? w _ hw308_20)).trans hw308_20), ((HB.out.cell (World.block_lt_of_cell? w _ hw308_21)).trans hw308_21), ((HB.out.cell (World.block_lt_of_cell? w _ hw308_22)).trans hw308_22)⟩ (fun hHeld => ?_)
                  clear hK K
                  refine norm_ (a' := ?_) ?_ ?_
                  rotate_left
                  · show Act.put _ (some 32) _ = _
                    simp only [Act.put, List.setIfInBounds_toArray, List.set_cons_zero, List.set_cons_succ, i64_w, i32_w]
                    rfl
                  refine one_ (i := 13) (N := some 38) #[true, true, true, true, true, true, true, true, true, true, true, true, true, true, false, false] rfl rfl (one_of HT_.out (by kernel_rfl)) (by decide) (fun K hK => ?_)
                  refine goes_ Try.func23 (by kernel_rfl) rfl #[.agg #[.int .i64 ((rd_T35 l0 x3_1).f0.f0), .int .i64 ((rd_T35 l0 x3_1).f0.f1), .int .i64 ((rd_T35 l0 x3_1).f0.f2), .int .i64 ((rd_T35 l0 x3_1).f0.f3), .int .i64 ((rd_T35 l0 x3_1).f0.f4), .int .i64 ((rd_T35 l0 x3_1).f0.f5), .string ((rd_T35 l0 x3_1).f0.f6)]] (by rfl) rfl rfl (by (try simp only [List.map_toArray, List.map_cons, List.map_nil]); first | done | rfl | (simp only [List.length_drop, List.length_take]; rfl)) ?_
                  with_reducible refine (gangwayref20_Fdstat.calls kj1 ((rd_T35 l0 x3_1).f0.f0) ((rd_T35 l0 x3_1).f0.f1) ((rd_T35 l0 x3_1).f0.f2) ((rd_T35 l0 x3_1).f0.f3) ((rd_T35 l0 x3_1).f0.f4) ((rd_T35 l0 x3_1).f0.f5) ((rd_T35 l0 x3_1).f0.f6) t309 _ A9.out).mono ?_
                  rintro e w21 ⟨v310, rfl, ho0, hb⟩
                  refine ⟨_, rfl, ?_⟩
                  have n0_ := Aside0.mk (Kd.R_elder' (by (with_reducible repeat (first | apply Kd.R_alloc | apply Kd.R_drewN | apply Kd.R_drew)); exact HO304.out) (Kd.R_base ho0) hb)
                  have n1_ := Aside0.mk (Kd.R_lower (Kd.R_new' ho0 (Kd.R_lt (by (with_reducible repeat (first | apply Kd.R_alloc | apply Kd.R_drewN | apply Kd.R_drew)); exact HO304.out))) (below_size (by repeat (first | (with_reducible first | exact HB.out | apply below_alloc | apply pw_below_drewN | apply below_drew1) | exact HB.out))))
                  have n2_ := Aside0.mk (below_step (by repeat (first | (with_reducible first | exact HB.out | apply below_alloc | apply pw_below_drewN | apply below_drew1) | exact HB.out)) hb)
                  clear HO304
                  clear HB
                  have HO304 := n0_
                  have HO311 := n1_
                  have HB := n2_
                  clear n0_ n1_ n2_
                  (try clear hb)
                  (try clear hb2)
                  (try clear hk)
                  (try clear hi)
                  (try clear ho0)
                  obtain ⟨Ao22, co22, eo22⟩ := Kd.R_slice HO304.out
                  (first | subst eo22 | (injection eo22 with f1_ f2_ f3_; have f4_ := f1_.symm; have f5_ := f3_.symm; clear f1_ f2_ f3_; subst f4_; subst f5_))
                  obtain ⟨Ao23, co23, eo23⟩ := Kd.R_slice HO311.out
                  (first | subst eo23 | (injection eo23 with f1_ f2_ f3_; have f4_ := f1_.symm; have f5_ := f3_.symm; clear f1_ f2_ f3_; subst f4_; subst f5_))
                  refine hK.out _ _ ⟨((HB.out.cell (World.block_lt_of_cell? w _ hw306_0)).trans hw306_0), ((HB.out.cell (World.block_lt_of_cell? w _ hw306_1)).trans hw306_1), ((HB.out.cell (World.block_lt_of_cell? w _ hw306_2)).trans hw306_2), ((HB.out.cell (World.block_lt_of_cell? w _ hw306_3)).trans hw306_3), ((HB.out.cell (World.block_lt_of_cell? w _ hw306_4)).trans hw306_4), ((HB.out.cell (World.block_lt_of_cell? w _ hw306_5)).trans hw306_5), ((HB.out.cell (World.block_lt_of_cell? w _ hw306_6)).trans hw306_6), ((HB.out.cell (World.block_lt_of_cell? w _ hw306_7)).trans hw306_7), ((HB.out.cell (World.block_lt_of_cell? w _ hw306_8)).trans hw306_8), ((HB.out.cell (World.block_lt_of_cell? w _ hw306_9)).trans hw306_9), ((HB.out.cell (World.block_lt_of_cell? w _ hw306_10)).trans hw306_10), ((HB.out.cell (World.block_lt_of_cell? w _ hw306_11)).trans hw306_11), ((HB.out.cell (World.block_lt_of_cell? w _ hw306_12)).trans hw306_12), ((HB.out.cell (World.block_lt_of_cell? w _ hw306_13)).trans hw306_13), ((HB.out.cell (World.block_lt_of_cell? w _ hw306_14)).trans hw306_14), ((HB.out.cell (World.block_lt_of_cell? w _ hw306_15)).trans hw306_15), ((HB.out.cell (World.block_lt_of_cell? w _ hw306_16)).trans hw306_16), ((HB.out.cell (World.block_lt_of_cell? w _ hw306_17)).trans hw306_17), ((HB.out.cell (World.block_lt_of_cell? w _ hw306_18)).trans hw306_18), ((HB.out.cell (World.block_lt_of_cell? w _ hw306_19)).trans hw306_19), ((HB.out.cell (World.block_lt_of_cell? w _ hw306_20)).trans hw306_20), ((HB.out.cell (World.block_lt_of_cell? w _ hw306_21)).trans hw306_21), ((HB.out.cell (World.block_lt_of_cell? w _ hw306_22)).trans hw306_22), ((HB.out.cell (World.block_lt_of_cell? w _ hw308_0)).trans hw308_0), ((HB.out.cell (World.block_lt_of_cell? w _ hw308_1)).trans hw308_1), ((HB.out.cell (World.block_lt_of_cell? w _ hw308_2)).trans hw308_2), ((HB.out.cell (World.block_lt_of_cell? w _ hw308_3)).trans hw308_3), ((HB.out.cell (World.block_lt_of_cell? w _ hw308_4)).trans hw308_4), ((HB.out.cell (World.block_lt_of_cell? w _ hw308_5)).trans hw308_5), ((HB.out.cell (World.block_lt_of_cell? w _ hw308_6)).trans hw308_6), ((HB.out.cell (World.block_lt_of_cell? w _ hw308_7)).trans hw308_7), ((HB.out.cell (World.block_lt_of_cell? w _ hw308_8)).trans hw308_8), ((HB.out.cell (World.block_lt_of_cell? w _ hw308_9)).trans hw308_9), ((HB.out.cell (World.block_lt_of_cell? w _ hw308_10)).trans hw308_10), ((HB.out.cell (World.block_lt_of_cell? w _ hw308_11)).trans hw308_11), ((HB.out.cell (World.block_lt_of_cell? w _ hw308_12)).trans hw308_12), ((HB.out.cell (World.block_lt_of_cell? w _ hw308_13)).trans hw308_13), ((HB.out.cell (World.block_lt_of_cell? w _ hw308_14)).trans hw308_14), ((HB.out.cell (World.block_lt_of_cell? w _ hw308_15)).trans hw308_15), ((HB.out.cell (World.block_lt_of_cell? w _ hw308_16)).trans hw308_16), ((HB.out.cell (World.block_lt_of_cell? w _ hw308_17)).trans hw308_17), ((HB.out.cell (World.block_lt_of_cell? w _ hw308_18)).trans hw308_18), ((HB.out.cell (World.block_lt_of_cell? w _ hw308_19)).trans hw308_19), ((HB.out.cell (World.block_lt_of_cell? w _ hw308_20)).trans hw308_20), ((HB.out.cell (World.block_lt_of_cell? w _ hw308_21)).trans hw308_21), ((HB.out.cell (World.block_lt_of_cell? w _ hw308_22)).trans hw308_22)⟩ (fun hHeld => ?_)
                  clear hK K
                  refine norm_ (a' := ?_) ?_ ?_
                  rotate_left
                  · show Act.put _ (some 38) _ = _
                    simp only [Act.put, List.setIfInBounds_toArray, List.set_cons_zero, List.set_cons_succ, i64_w, i32_w]
                    rfl
                  refine one_ (i := 14) (N := some 39) #[true, true, true, true, true, true, true, true, true, true, true, true, true, true, true, false] rfl rfl (one_of HT_.out (by kernel_rfl)) (by decide) (fun K hK => ?_)
                  refine goes_ Try.func11 (by kernel_rfl) rfl #[.slice Ao22 t302.length co22, .int .i64 t305, .bool t307, .slice Ao23 t309.length co23] (by rfl) rfl rfl (by (try simp only [List.map_toArray, List.map_cons, List.map_nil]); first | done | rfl | (simp only [List.length_drop, List.length_take]; rfl)) ?_
                  with_reducible refine (gangwaylaw20_is.calls kj1 _ _ t302 t305 t307 _ _ t309 false _ ?side1 ?side2 ?side3 ?side4 A10.out).mono ?_
                  (case side1 => repeat (first | exact (Kd.R_reads' HO304.out).2.2 | (with_reducible refine Kd.C_alloc ?_ _) | (with_reducible refine Kd.C_drewN ?_ _) | (with_reducible refine Kd.C_drew ?_)))
                  (case side2 => exact (Kd.R_reads' HO304.out).2.1)
                  (case side3 => repeat (first | exact (Kd.R_reads' HO311.out).2.2 | (with_reducible refine Kd.C_alloc ?_ _) | (with_reducible refine Kd.C_drewN ?_ _) | (with_reducible refine Kd.C_drew ?_)))
                  (case side4 => exact (Kd.R_reads' HO311.out).2.1)
                  rintro e w' ⟨rfl, ⟨nd, rfl⟩⟩
                  refine ⟨_, rfl, ?_⟩
                  refine hK.out _ _ ⟨((HB.out.cell (World.block_lt_of_cell? w _ hw306_0)).trans hw306_0), ((HB.out.cell (World.block_lt_of_cell? w _ hw306_1)).trans hw306_1), ((HB.out.cell (World.block_lt_of_cell? w _ hw306_2)).trans hw306_2), ((HB.out.cell (World.block_lt_of_cell? w _ hw306_3)).trans hw306_3), ((HB.out.cell (World.block_lt_of_cell? w _ hw306_4)).trans hw306_4), ((HB.out.cell (World.block_lt_of_cell? w _ hw306_5)).trans hw306_5), ((HB.out.cell (World.block_lt_of_cell? w _ hw306_6)).trans hw306_6), ((HB.out.cell (World.block_lt_of_cell? w _ hw306_7)).trans hw306_7), ((HB.out.cell (World.block_lt_of_cell? w _ hw306_8)).trans hw306_8), ((HB.out.cell (World.block_lt_of_cell? w _ hw306_9)).trans hw306_9), ((HB.out.cell (World.block_lt_of_cell? w _ hw306_10)).trans hw306_10), ((HB.out.cell (World.block_lt_of_cell? w _ hw306_11)).trans hw306_11), ((HB.out.cell (World.block_lt_of_cell? w _ hw306_12)).trans hw306_12), ((HB.out.cell (World.block_lt_of_cell? w _ hw306_13)).trans hw306_13), ((HB.out.cell (World.block_lt_of_cell? w _ hw306_14)).trans hw306_14), ((HB.out.cell (World.block_lt_of_cell? w _ hw306_15)).trans hw306_15), ((HB.out.cell (World.block_lt_of_cell? w _ hw306_16)).trans hw306_16), ((HB.out.cell (World.block_lt_of_cell? w _ hw306_17)).trans hw306_17), ((HB.out.cell (World.block_lt_of_cell? w _ hw306_18)).trans hw306_18), ((HB.out.cell (World.block_lt_of_cell? w _ hw306_19)).trans hw306_19), ((HB.out.cell (World.block_lt_of_cell? w _ hw306_20)).trans hw306_20), ((HB.out.cell (World.block_lt_of_cell? w _ hw306_21)).trans hw306_21), ((HB.out.cell (World.block_lt_of_cell? w _ hw306_22)).trans hw306_22), ((HB.out.cell (World.block_lt_of_cell? w _ hw308_0)).trans hw308_0), ((HB.out.cell (World.block_lt_of_cell? w _ hw308_1)).trans hw308_1), ((HB.out.cell (World.block_lt_of_cell? w _ hw308_2)).trans hw308_2), ((HB.out.cell (World.block_lt_of_cell? w _ hw308_3)).trans hw308_3), ((HB.out.cell (World.block_lt_of_cell? w _ hw308_4)).trans hw308_4), ((HB.out.cell (World.block_lt_of_cell? w _ hw308_5)).trans hw308_5), ((HB.out.cell (World.block_lt_of_cell? w _ hw308_6)).trans hw308_6), ((HB.out.cell (World.block_lt_of_cell? w _ hw308_7)).trans hw308_7), ((HB.out.cell (World.block_lt_of_cell? w _ hw308_8)).trans hw308_8), ((HB.out.cell (World.block_lt_of_cell? w _ hw308_9)).trans hw308_9), ((HB.out.cell (World.block_lt_of_cell? w _ hw308_10)).trans hw308_10), ((HB.out.cell (World.block_lt_of_cell? w _ hw308_11)).trans hw308_11), ((HB.out.cell (World.block_lt_of_cell? w _ hw308_12)).trans hw308_12), ((HB.out.cell (World.block_lt_of_cell? w _ hw308_13)).trans hw308_13), ((HB.out.cell (World.block_lt_of_cell? w _ hw308_14)).trans hw308_14), ((HB.out.cell (World.block_lt_of_cell? w _ hw308_15)).trans hw308_15), ((HB.out.cell (World.block_lt_of_cell? w _ hw308_16)).trans hw308_16), ((HB.out.cell (World.block_lt_of_cell? w _ hw308_17)).trans hw308_17), ((HB.out.cell (World.block_lt_of_cell? w _ hw308_18)).trans hw308_18), ((HB.out.cell (World.block_lt_of_cell? w _ hw308_19)).trans hw308_19), ((HB.out.cell (World.block_lt_of_cell? w _ hw308_20)).trans hw308_20), ((HB.out.cell (World.block_lt_of_cell? w _ hw308_21)).trans hw308_21), ((HB.out.cell (World.block_lt_of_cell? w _ hw308_22)).trans hw308_22)⟩ (fun hHeld => ?_)
                  clear hK K
                  refine norm_ (a' := ?_) ?_ ?_
                  rotate_left
                  · show Act.put _ (some 39) _ = _
                    simp only [Act.put, List.setIfInBounds_toArray, List.set_cons_zero, List.set_cons_succ, i64_w, i32_w]
                    rfl
                  refine pure_ (i := 15) (N := some 40) (v := ?_) (a' := ?_) #[true, true, true, true, true, true, true, true, true, true, true, true, true, true, true, true] rfl rfl (any_of HT_.out (by kernel_rfl)) (fun _ _ _ h => h) (Or.inl ⟨by rfl, ?_⟩) ?_ ?_
                  rotate_left
                  · intro w'
                    go_simp
                    with_reducible rfl
                  rotate_left
                  · simp only [Act.put, List.setIfInBounds_toArray, List.set_cons_zero, List.set_cons_succ, i64_w, i32_w]
                    rfl
                  refine done_ (done_of HT_.out (by kernel_rfl)) ?_
                  try go_wp2
                  go_ret
                  exact ⟨by first | rfl | (simp [errW_none, errW_some] <;> rfl) | (simp [*, errW_none, errW_some] <;> rfl), by repeat (first | (with_reducible first | exact HB.out | apply below_alloc | apply pw_below_drewN | apply below_drew1) | exact HB.out)⟩
              · rw [if_neg c6] at H
                exact absurd H (by simp)
            · rw [if_neg c5] at H
              exact absurd H (by simp)
          · replace c4 := Bool.eq_false_iff.mpr c4
            subst c4
            have H1 : ((gangwaylaw20_wakes.f kj1).bind fun t300 => (some t300)) = some r := by rw [if_neg (show ¬ (false = true) by decide)] at H; exact H
            clear H
            have H := H1
            clear H1
            replace H := Option.bind_eq_some_iff.mp H
            obtain ⟨t300, A240, H⟩ := H
            replace H : (some t300) = some r := H
            have A24 := Aside0.mk A240
            clear A240
            obtain rfl := Option.some.inj H
            go_wp2_with (first | ((with_reducible refine gate_callee (f := 14) rfl ?_); refine goesL_ (some 41) rfl rfl Try.func14 (by kernel_rfl) rfl #[] rfl (by (try simp only [List.map_toArray, List.map_cons, List.map_nil]); first | done | rfl | (simp only [List.length_drop, List.length_take]; rfl)) ?_; (with_reducible refine (gangwaylaw20_wakes.calls kj1  t300 _ A24.out).mono ?_); rintro e w25 ⟨rfl, hb⟩; refine ⟨_, rfl, ?_⟩; have n0_ := Aside0.mk (below_step (by repeat (first | (with_reducible first | exact HB.out | apply below_alloc | apply pw_below_drewN | apply below_drew1) | exact HB.out)) hb); clear HB; have HB := n0_; clear n0_; (try clear hb); (try clear hb2); (try clear hk); (try clear hi)))
            go_ret
            exact ⟨by first | rfl | (simp [errW_none, errW_some] <;> rfl) | (simp [*, errW_none, errW_some] <;> rfl), by repeat (first | (with_reducible first | exact HB.out | apply below_alloc | apply pw_below_drewN | apply below_drew1) | exact HB.out)⟩

/-- THE ONE PURE STATEMENT of gangwaylaw20_StatFds: yours. -/
def gangwaylaw20_StatFds.Pure : Prop := ∀ (x0 : List (S35)), (x0.length * 256 ≤ 140737488351232 ∧ ∀ y313 ∈ x0, okT35 y313) → ∃ k, gangwaylaw20_StatFds.f k x0 = some true
theorem gangwaylaw20_StatFds.walk (P : gangwaylaw20_StatFds.Pure) (w : World) (x0 : List (S35)) (A0 : Option Addr) (c0 : Nat) (hr0 : Kd.C k35 w A0 x0.length x0) (hc0 : x0.length ≤ c0) (hok0 : (x0.length * 256 ≤ 140737488351232 ∧ ∀ y314 ∈ x0, okT35 y314)) :
    Calls Try.prog 6 #[.slice A0 x0.length c0] w fun e w' => e = .returned (.bool true) ∧ Below w.heap.size w w' := by
  obtain ⟨k, h⟩ := P x0 hok0
  refine (gangwaylaw20_StatFds.calls k _ _ x0 true w hr0 hc0 h).mono ?_
  rintro e w' ⟨rfl, hd⟩
  exact ⟨rfl, hd⟩

end Go.Proofs.Ythhmnecnoojcpaa.PAll
