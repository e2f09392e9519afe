/- Printed by a copy of the printer that was turned for this claim: functions as plain Lean functions, with proofs that their calls come to these; or words that such proofs use. -/
import Derived.Test.YthhmnecnoojcpaaPAllx0
import Derived.Test.YthhmnecnoojcpaaPAllx1
import Derived.Test.YthhmnecnoojcpaaPAllx2
namespace Go.Proofs.Ythhmnecnoojcpaa.PAll
open Go.RowKit Go.Proofs.YthhmnecnoojcpaaW.PrintWords Go.Proofs.YthhmnecnoojcpaaW.PrintLast Go.Proofs.YthhmnecnoojcpaaW.PrintMore
attribute [local go_sem] max2_int min2_int max_two min_two max_three min_three max_four min_four   -- for this text's walks alone
set_option linter.unusedVariables false
set_option linter.unusedSimpArgs false

/-! ### gangwaylaw20_StatEvents: function 3 -/
mutual
def gangwaylaw20_StatEvents.l0 : Nat → List (S35) → Int → Option (Bool)
  | 0, _, _ => none
  | k + 1, x0, x3 => if x3 < (x0.length : Int) then (gangwaylaw20_StatEvents.j1 k x0 x3 (decide (x3 < 20))) else (gangwaylaw20_StatEvents.j1 k x0 x3 false)
def gangwaylaw20_StatEvents.j1 : Nat → List (S35) → Int → Bool → Option (Bool)
  | 0, _, _, _ => none
  | k + 1, x0, x3, x13 => if x13 = true then (if 0 ≤ x3 then (if x3 < (x0.length : Int) then ((stat_Event.f k ((rd_T35 x0 x3).f7.f0) ((rd_T35 x0 x3).f7.f1) ((rd_T35 x0 x3).f7.f2) ((rd_T35 x0 x3).f7.f3)).bind fun bt158 => ((gangwayref20_MayEvent.f ((rd_T35 x0 x3).f7.f0) ((rd_T35 x0 x3).f7.f1) ((rd_T35 x0 x3).f7.f2) ((rd_T35 x0 x3).f7.f3)).bind fun t163 => ((gangwayref20_Event.f k ((rd_T35 x0 x3).f7.f0) ((rd_T35 x0 x3).f7.f1) ((rd_T35 x0 x3).f7.f2) ((rd_T35 x0 x3).f7.f3)).bind fun t165 => ((gangwaylaw20_is.f k bt158.1 bt158.2 t163 t165).bind fun t168 => (if t168 = true then (gangwaylaw20_StatEvents.l0 k x0 (wrap64 (x3 + 1))) else (some false)))))) else (none)) else (none)) else ((gangwaylaw20_wakes.f k).bind fun t156 => (some t156))
end
def gangwaylaw20_StatEvents.f (k : Nat) (l0 : List (S35)) : Option (Bool) := gangwaylaw20_StatEvents.l0 k l0 0
theorem gangwaylaw20_StatEvents.mono_l : ∀ k, (∀ y0 y1, LeO (gangwaylaw20_StatEvents.l0 k y0 y1) (gangwaylaw20_StatEvents.l0 (k + 1) y0 y1)) ∧ (∀ y0 y1 y2, LeO (gangwaylaw20_StatEvents.j1 k y0 y1 y2) (gangwaylaw20_StatEvents.j1 (k + 1) y0 y1 y2))
  | 0 => ⟨fun _ _ r h => by simp [gangwaylaw20_StatEvents.l0] at h, fun _ _ _ r h => by simp [gangwaylaw20_StatEvents.j1] at h⟩
  | k + 1 => by
    obtain ⟨ih0, ih1⟩ := gangwaylaw20_StatEvents.mono_l k
    refine ⟨?_, ?_⟩
    · intro y0 y1
      unfold gangwaylaw20_StatEvents.l0
      repeat' first
      | (with_reducible exact ih0 _ _)
      | (with_reducible exact ih1 _ _ _)
      | (with_reducible exact gangwaylaw20_is.mono _ _ _ _ _)
      | (with_reducible exact gangwaylaw20_wakes.mono _)
      | (with_reducible exact gangwayref20_Event.mono _ _ _ _ _)
      | (with_reducible exact stat_Event.mono _ _ _ _ _)
      | (with_reducible exact LeO.refl _)
      | (with_reducible exact LeO.none _)
      | (with_reducible refine LeO.ite ?_ ?_)
      | (with_reducible refine LeO.bind ?_ (fun _ => ?_))
      | exact ih0 _ _
      | exact ih1 _ _ _
      | exact gangwaylaw20_is.mono _ _ _ _ _
      | exact gangwaylaw20_wakes.mono _
      | exact gangwayref20_Event.mono _ _ _ _ _
      | exact stat_Event.mono _ _ _ _ _
      | exact LeO.none _
      | refine LeO.ite ?_ ?_
      | refine LeO.bind ?_ (fun _ => ?_)
    · intro y0 y1 y2
      unfold gangwaylaw20_StatEvents.j1
      repeat' first
      | (with_reducible exact ih0 _ _)
      | (with_reducible exact ih1 _ _ _)
      | (with_reducible exact gangwaylaw20_is.mono _ _ _ _ _)
      | (with_reducible exact gangwaylaw20_wakes.mono _)
      | (with_reducible exact gangwayref20_Event.mono _ _ _ _ _)
      | (with_reducible exact stat_Event.mono _ _ _ _ _)
      | (with_reducible exact LeO.refl _)
      | (with_reducible exact LeO.none _)
      | (with_reducible refine LeO.ite ?_ ?_)
      | (with_reducible refine LeO.bind ?_ (fun _ => ?_))
      | exact ih0 _ _
      | exact ih1 _ _ _
      | exact gangwaylaw20_is.mono _ _ _ _ _
      | exact gangwaylaw20_wakes.mono _
      | exact gangwayref20_Event.mono _ _ _ _ _
      | exact stat_Event.mono _ _ _ _ _
      | exact LeO.none _
      | refine LeO.ite ?_ ?_
      | refine LeO.bind ?_ (fun _ => ?_)
theorem gangwaylaw20_StatEvents.mono : ∀ a0 k, LeO (gangwaylaw20_StatEvents.f k a0) (gangwaylaw20_StatEvents.f (k + 1) a0) := by
  intro a0 k
  obtain ⟨ih0, ih1⟩ := gangwaylaw20_StatEvents.mono_l k
  unfold gangwaylaw20_StatEvents.f
  repeat' first
      | (with_reducible exact ih0 _ _)
      | (with_reducible exact ih1 _ _ _)
      | (with_reducible exact gangwaylaw20_is.mono _ _ _ _ _)
      | (with_reducible exact gangwaylaw20_wakes.mono _)
      | (with_reducible exact gangwayref20_Event.mono _ _ _ _ _)
      | (with_reducible exact stat_Event.mono _ _ _ _ _)
      | (with_reducible exact LeO.refl _)
      | (with_reducible exact LeO.none _)
      | (with_reducible refine LeO.ite ?_ ?_)
      | (with_reducible refine LeO.bind ?_ (fun _ => ?_))
      | exact ih0 _ _
      | exact ih1 _ _ _
      | exact gangwaylaw20_is.mono _ _ _ _ _
      | exact gangwaylaw20_wakes.mono _
      | exact gangwayref20_Event.mono _ _ _ _ _
      | exact stat_Event.mono _ _ _ _ _
      | exact LeO.none _
      | refine LeO.ite ?_ ?_
      | refine LeO.bind ?_ (fun _ => ?_)
def gangwaylaw20_StatEvents.T5 : Bool × List (List Nat × List Nat) := (true, [([], []), ([], []), ([], []), ([], []), ([2, 3], [2, 3]), ([4], [4]), ([5], [5]), ([6], [6]), ([], []), ([], []), ([8, 9], [8, 9]), ([10], [10]), ([11], [11]), ([12, 7], [12]), ([0, 1, 7, 13, 13], [0, 1, 7, 13]), ([14], [14])])
def gangwaylaw20_StatEvents.B5 : List Nat := [0, 0, 0, 0, 12, 28, 60, 124, 0, 0, 768, 1792, 3840, 8188, 16383, 32767]
theorem gangwaylaw20_StatEvents.tab5 : rtab .any (opsOf Try.f3 5) = gangwaylaw20_StatEvents.T5 := by kernel_rfl
theorem gangwaylaw20_StatEvents.bits5 : waitsOk gangwaylaw20_StatEvents.T5.2 gangwaylaw20_StatEvents.B5 = true := by kernel_rfl
set_option maxHeartbeats 8000000 in
set_option maxRecDepth 100000 in
theorem gangwaylaw20_StatEvents.calls (k : Nat) (A0 : Option Addr) (c0 : Nat) (l0 : List (S35)) (r : Bool) (w : World) (hr0 : Kd.C k35 w A0 l0.length l0) (hc0 : l0.length ≤ c0) (h : gangwaylaw20_StatEvents.f k l0 = some r) :
    Calls Try.prog 3 #[.slice A0 l0.length c0] w fun e w' => e = .returned (.bool r) ∧ Below w.heap.size w w' := by
  have hu33 := Try.underlying33
  have HR0 := Aside0.mk hr0
  have HC0 := Aside0.mk hc0
  clear hr0 hc0
  have HB := Aside0.mk (Below.refl w.heap.size w)
  have H : (gangwaylaw20_StatEvents.l0 k l0 0) = some r := h
  clear h
  have H' := Aside0.mk H
  clear H
  go_enter Try.func3, Try.ntmps3
  go_wp2
  go_loopg [3] k (fun kq v3 w' => ∃ (x3_1 : Int), v3 = .int .i64 x3_1 ∧ Aside0 (gangwaylaw20_StatEvents.l0 kq l0 x3_1 = some r) ∧ Aside0 (kq ≤ k) ∧ Aside0 (Below w.heap.size w w'))
  case atStart => exact ⟨(0), (by first | rfl | (simp; done) | (simp [*]; done)), H', ⟨Nat.le_refl _⟩, ⟨by repeat (first | (with_reducible first | exact HB.out | apply below_alloc | apply pw_below_drewN | apply below_drew1) | exact HB.out)⟩⟩
  case round =>
    clear H'
    obtain ⟨x3_1, rfl, HA, HK1, HB⟩ := hrel
    cases gk with
    | zero => exact absurd HA.out (by simp [gangwaylaw20_StatEvents.l0])
    | succ k1 =>
      have H := HA.out
      clear HA
      simp only [gangwaylaw20_StatEvents.l0] at H
      have HC2 := Aside0.mk H
      clear H
      go_upto_region 2 with (fail)
      go_cut [13] (fun v13 wc => ∃ (kq : Nat) (x13_1 : Bool), v13 = .bool x13_1 ∧ Aside0 (gangwaylaw20_StatEvents.j1 kq l0 x3_1 x13_1 = some r) ∧ Aside0 (kq ≤ k1) ∧ Aside0 (Below w.heap.size w wc))
      case first =>
        have H := HC2.out
        clear HC2
        by_cases c3 : x3_1 < (l0.length : Int)
        · rw [if_pos c3] at H
          have c3b0 : decide (x3_1 < (l0.length : Int)) = true := decide_eq_true c3
          clear c3
          (first | rw [c3b0] | (simp only [i64_w, i32_w]; rw [c3b0]) | skip)
          have H' := Aside0.mk H
          clear H
          go_wp2
          go_meet
          case rel => exact ⟨_, (decide (x3_1 < 20)), (by first | rfl | (simp; done) | (simp [*]; done)), H', ⟨by have := HK1.out; first | omega | exact Nat.le_refl _⟩, ⟨by repeat (first | (with_reducible first | exact HB.out | apply below_alloc | apply pw_below_drewN | apply below_drew1) | exact HB.out)⟩⟩
        · rw [if_neg c3] at H
          have c3b0 : decide (x3_1 < (l0.length : Int)) = false := decide_eq_false c3
          clear c3
          (first | rw [c3b0] | (simp only [i64_w, i32_w]; rw [c3b0]) | skip)
          have H' := Aside0.mk H
          clear H
          go_wp2
          go_meet
          case rel => exact ⟨_, (false), (by first | rfl | (simp; done) | (simp [*]; done)), H', ⟨by have := HK1.out; first | omega | exact Nat.le_refl _⟩, ⟨by repeat (first | (with_reducible first | exact HB.out | apply below_alloc | apply pw_below_drewN | apply below_drew1) | exact HB.out)⟩⟩
      case rest =>
        clear HC2
        try clear p2
        try clear c3
        try clear c3b0
        obtain ⟨kq, x13_1, rfl, HA, HJ1, HB⟩ := hcut
        cases kq with
        | zero => exact absurd HA.out (by simp [gangwaylaw20_StatEvents.j1])
        | succ kj1 =>
          have H := HA.out
          clear HA
          simp only [gangwaylaw20_StatEvents.j1] at H
          by_cases c4 : x13_1 = true
          · subst c4
            have H1 : (if 0 ≤ x3_1 then (if x3_1 < (l0.length : Int) then ((stat_Event.f kj1 ((rd_T35 l0 x3_1).f7.f0) ((rd_T35 l0 x3_1).f7.f1) ((rd_T35 l0 x3_1).f7.f2) ((rd_T35 l0 x3_1).f7.f3)).bind fun bt158 => ((gangwayref20_MayEvent.f ((rd_T35 l0 x3_1).f7.f0) ((rd_T35 l0 x3_1).f7.f1) ((rd_T35 l0 x3_1).f7.f2) ((rd_T35 l0 x3_1).f7.f3)).bind fun t163 => ((gangwayref20_Event.f kj1 ((rd_T35 l0 x3_1).f7.f0) ((rd_T35 l0 x3_1).f7.f1) ((rd_T35 l0 x3_1).f7.f2) ((rd_T35 l0 x3_1).f7.f3)).bind fun t165 => ((gangwaylaw20_is.f kj1 bt158.1 bt158.2 t163 t165).bind fun t168 => (if t168 = true then (gangwaylaw20_StatEvents.l0 kj1 l0 (wrap64 (x3_1 + 1))) else (some false)))))) else (none)) else (none)) = some r := by rw [if_pos rfl] at H; exact H
            clear H
            have H := H1
            clear H1
            by_cases c5 : 0 ≤ x3_1
            · rw [if_pos c5] at H
              have c5b0 : decide (0 ≤ x3_1) = true := decide_eq_true c5
              clear c5
              by_cases c6 : x3_1 < (l0.length : Int)
              · rw [if_pos c6] at H
                have c6b0 : decide (x3_1 < (l0.length : Int)) = true := decide_eq_true c6
                clear c6
                replace H := Option.bind_eq_some_iff.mp H
                obtain ⟨⟨t158, t161⟩, A70, H⟩ := H
                replace H : ((gangwayref20_MayEvent.f ((rd_T35 l0 x3_1).f7.f0) ((rd_T35 l0 x3_1).f7.f1) ((rd_T35 l0 x3_1).f7.f2) ((rd_T35 l0 x3_1).f7.f3)).bind fun t163 => ((gangwayref20_Event.f kj1 ((rd_T35 l0 x3_1).f7.f0) ((rd_T35 l0 x3_1).f7.f1) ((rd_T35 l0 x3_1).f7.f2) ((rd_T35 l0 x3_1).f7.f3)).bind fun t165 => ((gangwaylaw20_is.f kj1 t158 t161 t163 t165).bind fun t168 => (if t168 = true then (gangwaylaw20_StatEvents.l0 kj1 l0 (wrap64 (x3_1 + 1))) else (some false))))) = some r := H
                have A7 := Aside0.mk A70
                clear A70
                replace H := Option.bind_eq_some_iff.mp H
                obtain ⟨t163, A80, H⟩ := H
                replace H : ((gangwayref20_Event.f kj1 ((rd_T35 l0 x3_1).f7.f0) ((rd_T35 l0 x3_1).f7.f1) ((rd_T35 l0 x3_1).f7.f2) ((rd_T35 l0 x3_1).f7.f3)).bind fun t165 => ((gangwaylaw20_is.f kj1 t158 t161 t163 t165).bind fun t168 => (if t168 = true then (gangwaylaw20_StatEvents.l0 kj1 l0 (wrap64 (x3_1 + 1))) else (some false)))) = some r := H
                have A8 := Aside0.mk A80
                clear A80
                replace H := Option.bind_eq_some_iff.mp H
                obtain ⟨t165, A90, H⟩ := H
                replace H : ((gangwaylaw20_is.f kj1 t158 t161 t163 t165).bind fun t168 => (if t168 = true then (gangwaylaw20_StatEvents.l0 kj1 l0 (wrap64 (x3_1 + 1))) else (some false))) = some r := H
                have A9 := Aside0.mk A90
                clear A90
                replace H := Option.bind_eq_some_iff.mp H
                obtain ⟨t168, A100, H⟩ := H
                replace H : (if t168 = true then (gangwaylaw20_StatEvents.l0 kj1 l0 (wrap64 (x3_1 + 1))) else (some false)) = some r := H
                have A10 := Aside0.mk A100
                clear A100
                by_cases c11 : t168 = true
                · subst c11
                  have H1 : (gangwaylaw20_StatEvents.l0 kj1 l0 (wrap64 (x3_1 + 1))) = some r := by rw [if_pos rfl] at H; exact H
                  clear H
                  have H := H1
                  clear H1
                  have H' := Aside0.mk H
                  clear H
                  have p157 : 0 ≤ (x3_1 : Int) := of_decide_eq_true (by first | (with_reducible assumption) | assumption)
                  have q157 : x3_1 < (l0.length : Int) := of_decide_eq_true (by first | (with_reducible assumption) | assumption)
                  obtain ⟨ad157, A157_8, c157_8, A157_9, c157_9, A157_22, c157_22, e157, hx157_0, hx157_1, hx157_2, hx157_3, hx157_4, hx157_5, hx157_6, hx157_7, hx157_8, hx157_9, hx157_10, hx157_11, hx157_12, hx157_13, hx157_14, hx157_15, hx157_16, hx157_17, hx157_18, hx157_19, hx157_20, hx157_21, hx157_22, hl157_8, hi157_8, hl157_9, hi157_9, hl157_22, hi157_22⟩ := at_T35 HR0.out x3_1 p157 q157
                  cases e157
                  replace hx157_0 := (HB.out.cell (World.block_lt_of_cell? w _ hx157_0)).trans hx157_0
                  replace hx157_1 := (HB.out.cell (World.block_lt_of_cell? w _ hx157_1)).trans hx157_1
                  replace hx157_2 := (HB.out.cell (World.block_lt_of_cell? w _ hx157_2)).trans hx157_2
                  replace hx157_3 := (HB.out.cell (World.block_lt_of_cell? w _ hx157_3)).trans hx157_3
                  replace hx157_4 := (HB.out.cell (World.block_lt_of_cell? w _ hx157_4)).trans hx157_4
                  replace hx157_5 := (HB.out.cell (World.block_lt_of_cell? w _ hx157_5)).trans hx157_5
                  replace hx157_6 := (HB.out.cell (World.block_lt_of_cell? w _ hx157_6)).trans hx157_6
                  replace hx157_7 := (HB.out.cell (World.block_lt_of_cell? w _ hx157_7)).trans hx157_7
                  replace hx157_8 := (HB.out.cell (World.block_lt_of_cell? w _ hx157_8)).trans hx157_8
                  replace hx157_9 := (HB.out.cell (World.block_lt_of_cell? w _ hx157_9)).trans hx157_9
                  replace hx157_10 := (HB.out.cell (World.block_lt_of_cell? w _ hx157_10)).trans hx157_10
                  replace hx157_11 := (HB.out.cell (World.block_lt_of_cell? w _ hx157_11)).trans hx157_11
                  replace hx157_12 := (HB.out.cell (World.block_lt_of_cell? w _ hx157_12)).trans hx157_12
                  replace hx157_13 := (HB.out.cell (World.block_lt_of_cell? w _ hx157_13)).trans hx157_13
                  replace hx157_14 := (HB.out.cell (World.block_lt_of_cell? w _ hx157_14)).trans hx157_14
                  replace hx157_15 := (HB.out.cell (World.block_lt_of_cell? w _ hx157_15)).trans hx157_15
                  replace hx157_16 := (HB.out.cell (World.block_lt_of_cell? w _ hx157_16)).trans hx157_16
                  replace hx157_17 := (HB.out.cell (World.block_lt_of_cell? w _ hx157_17)).trans hx157_17
                  replace hx157_18 := (HB.out.cell (World.block_lt_of_cell? w _ hx157_18)).trans hx157_18
                  replace hx157_19 := (HB.out.cell (World.block_lt_of_cell? w _ hx157_19)).trans hx157_19
                  replace hx157_20 := (HB.out.cell (World.block_lt_of_cell? w _ hx157_20)).trans hx157_20
                  replace hx157_21 := (HB.out.cell (World.block_lt_of_cell? w _ hx157_21)).trans hx157_21
                  replace hx157_22 := (HB.out.cell (World.block_lt_of_cell? w _ hx157_22)).trans hx157_22
                  have HR157_8 := Aside0.mk hi157_8
                  have HC157_8 := Aside0.mk hl157_8
                  clear hi157_8 hl157_8
                  have HR157_9 := Aside0.mk hi157_9
                  have HC157_9 := Aside0.mk hl157_9
                  clear hi157_9 hl157_9
                  have HR157_22 := Aside0.mk hi157_22
                  have HC157_22 := Aside0.mk hl157_22
                  clear hi157_22 hl157_22
                  replace p157 := eq_true p157
                  replace q157 := eq_true q157
                  try go_wp2_with (first | ((with_reducible refine gate_callee (f := 10) rfl ?_); refine goesL_ (some 22) rfl rfl Try.func10 (by kernel_rfl) rfl #[.agg #[.int .i64 ((rd_T35 l0 x3_1).f7.f0), .int .i64 ((rd_T35 l0 x3_1).f7.f1), .int .i64 ((rd_T35 l0 x3_1).f7.f2), .int .i64 ((rd_T35 l0 x3_1).f7.f3)]] rfl (by (try simp only [List.map_toArray, List.map_cons, List.map_nil]); first | done | rfl | (simp only [List.length_drop, List.length_take]; rfl)) ?_; (with_reducible refine (stat_Event.calls kj1 ((rd_T35 l0 x3_1).f7.f0) ((rd_T35 l0 x3_1).f7.f1) ((rd_T35 l0 x3_1).f7.f2) ((rd_T35 l0 x3_1).f7.f3) t158 t161 _ A7.out).mono ?_); rintro e w12 ⟨v159, rfl, ho0, hb⟩; refine ⟨_, rfl, ?_⟩; have n0_ := Aside0.mk (Kd.R_lower ho0 (below_size (by repeat (first | (with_reducible first | exact HB.out | apply below_alloc | apply pw_below_drewN | apply below_drew1) | exact HB.out)))); have n1_ := Aside0.mk (below_step (by repeat (first | (with_reducible first | exact HB.out | apply below_alloc | apply pw_below_drewN | apply below_drew1) | exact HB.out)) hb); clear HB; have HO160 := n0_; have HB := n1_; clear n0_ n1_; (try clear hb); (try clear hb2); (try clear hk); (try clear hi); (try clear ho0)))
                  have n0_ := Aside0.mk (Kd.R_drew HO160.out)
                  have n1_ := Aside0.mk (below_drew1 HB.out)
                  clear HO160
                  clear HB
                  have HO160 := n0_
                  have HB := n1_
                  clear n0_ n1_
                  have p162 : 0 ≤ (x3_1 : Int) := of_decide_eq_true (by first | (with_reducible assumption) | assumption)
                  have q162 : x3_1 < (l0.length : Int) := of_decide_eq_true (by first | (with_reducible assumption) | assumption)
                  obtain ⟨ad162, A162_8, c162_8, A162_9, c162_9, A162_22, c162_22, e162, hx162_0, hx162_1, hx162_2, hx162_3, hx162_4, hx162_5, hx162_6, hx162_7, hx162_8, hx162_9, hx162_10, hx162_11, hx162_12, hx162_13, hx162_14, hx162_15, hx162_16, hx162_17, hx162_18, hx162_19, hx162_20, hx162_21, hx162_22, hl162_8, hi162_8, hl162_9, hi162_9, hl162_22, hi162_22⟩ := at_T35 HR0.out x3_1 p162 q162
                  have hw162_22 := hx162_22
                  have hw162_21 := hx162_21
                  have hw162_20 := hx162_20
                  have hw162_19 := hx162_19
                  have hw162_18 := hx162_18
                  have hw162_17 := hx162_17
                  have hw162_16 := hx162_16
                  have hw162_15 := hx162_15
                  have hw162_14 := hx162_14
                  have hw162_13 := hx162_13
                  have hw162_12 := hx162_12
                  have hw162_11 := hx162_11
                  have hw162_10 := hx162_10
                  have hw162_9 := hx162_9
                  have hw162_8 := hx162_8
                  have hw162_7 := hx162_7
                  have hw162_6 := hx162_6
                  have hw162_5 := hx162_5
                  have hw162_4 := hx162_4
                  have hw162_3 := hx162_3
                  have hw162_2 := hx162_2
                  have hw162_1 := hx162_1
                  have hw162_0 := hx162_0
                  obtain rfl : ad157 = ad162 := (by injection e162)
                  replace hx162_0 := (HB.out.cell (World.block_lt_of_cell? w _ hx162_0)).trans hx162_0
                  replace hx162_1 := (HB.out.cell (World.block_lt_of_cell? w _ hx162_1)).trans hx162_1
                  replace hx162_2 := (HB.out.cell (World.block_lt_of_cell? w _ hx162_2)).trans hx162_2
                  replace hx162_3 := (HB.out.cell (World.block_lt_of_cell? w _ hx162_3)).trans hx162_3
                  replace hx162_4 := (HB.out.cell (World.block_lt_of_cell? w _ hx162_4)).trans hx162_4
                  replace hx162_5 := (HB.out.cell (World.block_lt_of_cell? w _ hx162_5)).trans hx162_5
                  replace hx162_6 := (HB.out.cell (World.block_lt_of_cell? w _ hx162_6)).trans hx162_6
                  replace hx162_7 := (HB.out.cell (World.block_lt_of_cell? w _ hx162_7)).trans hx162_7
                  replace hx162_8 := (HB.out.cell (World.block_lt_of_cell? w _ hx162_8)).trans hx162_8
                  replace hx162_9 := (HB.out.cell (World.block_lt_of_cell? w _ hx162_9)).trans hx162_9
                  replace hx162_10 := (HB.out.cell (World.block_lt_of_cell? w _ hx162_10)).trans hx162_10
                  replace hx162_11 := (HB.out.cell (World.block_lt_of_cell? w _ hx162_11)).trans hx162_11
                  replace hx162_12 := (HB.out.cell (World.block_lt_of_cell? w _ hx162_12)).trans hx162_12
                  replace hx162_13 := (HB.out.cell (World.block_lt_of_cell? w _ hx162_13)).trans hx162_13
                  replace hx162_14 := (HB.out.cell (World.block_lt_of_cell? w _ hx162_14)).trans hx162_14
                  replace hx162_15 := (HB.out.cell (World.block_lt_of_cell? w _ hx162_15)).trans hx162_15
                  replace hx162_16 := (HB.out.cell (World.block_lt_of_cell? w _ hx162_16)).trans hx162_16
                  replace hx162_17 := (HB.out.cell (World.block_lt_of_cell? w _ hx162_17)).trans hx162_17
                  replace hx162_18 := (HB.out.cell (World.block_lt_of_cell? w _ hx162_18)).trans hx162_18
                  replace hx162_19 := (HB.out.cell (World.block_lt_of_cell? w _ hx162_19)).trans hx162_19
                  replace hx162_20 := (HB.out.cell (World.block_lt_of_cell? w _ hx162_20)).trans hx162_20
                  replace hx162_21 := (HB.out.cell (World.block_lt_of_cell? w _ hx162_21)).trans hx162_21
                  replace hx162_22 := (HB.out.cell (World.block_lt_of_cell? w _ hx162_22)).trans hx162_22
                  have HR162_8 := Aside0.mk hi162_8
                  have HC162_8 := Aside0.mk hl162_8
                  clear hi162_8 hl162_8
                  have HR162_9 := Aside0.mk hi162_9
                  have HC162_9 := Aside0.mk hl162_9
                  clear hi162_9 hl162_9
                  have HR162_22 := Aside0.mk hi162_22
                  have HC162_22 := Aside0.mk hl162_22
                  clear hi162_22 hl162_22
                  replace p162 := eq_true p162
                  replace q162 := eq_true q162
                  have p164 : 0 ≤ (x3_1 : Int) := of_decide_eq_true (by first | (with_reducible assumption) | assumption)
                  have q164 : x3_1 < (l0.length : Int) := of_decide_eq_true (by first | (with_reducible assumption) | assumption)
                  obtain ⟨ad164, A164_8, c164_8, A164_9, c164_9, A164_22, c164_22, e164, hx164_0, hx164_1, hx164_2, hx164_3, hx164_4, hx164_5, hx164_6, hx164_7, hx164_8, hx164_9, hx164_10, hx164_11, hx164_12, hx164_13, hx164_14, hx164_15, hx164_16, hx164_17, hx164_18, hx164_19, hx164_20, hx164_21, hx164_22, hl164_8, hi164_8, hl164_9, hi164_9, hl164_22, hi164_22⟩ := at_T35 HR0.out x3_1 p164 q164
                  have hw164_22 := hx164_22
                  have hw164_21 := hx164_21
                  have hw164_20 := hx164_20
                  have hw164_19 := hx164_19
                  have hw164_18 := hx164_18
                  have hw164_17 := hx164_17
                  have hw164_16 := hx164_16
                  have hw164_15 := hx164_15
                  have hw164_14 := hx164_14
                  have hw164_13 := hx164_13
                  have hw164_12 := hx164_12
                  have hw164_11 := hx164_11
                  have hw164_10 := hx164_10
                  have hw164_9 := hx164_9
                  have hw164_8 := hx164_8
                  have hw164_7 := hx164_7
                  have hw164_6 := hx164_6
                  have hw164_5 := hx164_5
                  have hw164_4 := hx164_4
                  have hw164_3 := hx164_3
                  have hw164_2 := hx164_2
                  have hw164_1 := hx164_1
                  have hw164_0 := hx164_0
                  obtain rfl : ad157 = ad164 := (by injection e164)
                  replace hx164_0 := (HB.out.cell (World.block_lt_of_cell? w _ hx164_0)).trans hx164_0
                  replace hx164_1 := (HB.out.cell (World.block_lt_of_cell? w _ hx164_1)).trans hx164_1
                  replace hx164_2 := (HB.out.cell (World.block_lt_of_cell? w _ hx164_2)).trans hx164_2
                  replace hx164_3 := (HB.out.cell (World.block_lt_of_cell? w _ hx164_3)).trans hx164_3
                  replace hx164_4 := (HB.out.cell (World.block_lt_of_cell? w _ hx164_4)).trans hx164_4
                  replace hx164_5 := (HB.out.cell (World.block_lt_of_cell? w _ hx164_5)).trans hx164_5
                  replace hx164_6 := (HB.out.cell (World.block_lt_of_cell? w _ hx164_6)).trans hx164_6
                  replace hx164_7 := (HB.out.cell (World.block_lt_of_cell? w _ hx164_7)).trans hx164_7
                  replace hx164_8 := (HB.out.cell (World.block_lt_of_cell? w _ hx164_8)).trans hx164_8
                  replace hx164_9 := (HB.out.cell (World.block_lt_of_cell? w _ hx164_9)).trans hx164_9
                  replace hx164_10 := (HB.out.cell (World.block_lt_of_cell? w _ hx164_10)).trans hx164_10
                  replace hx164_11 := (HB.out.cell (World.block_lt_of_cell? w _ hx164_11)).trans hx164_11
                  replace hx164_12 := (HB.out.cell (World.block_lt_of_cell? w _ hx164_12)).trans hx164_12
                  replace hx164_13 := (HB.out.cell (World.block_lt_of_cell? w _ hx164_13)).trans hx164_13
                  replace hx164_14 := (HB.out.cell (World.block_lt_of_cell? w _ hx164_14)).trans hx164_14
                  replace hx164_15 := (HB.out.cell (World.block_lt_of_cell? w _ hx164_15)).trans hx164_15
                  replace hx164_16 := (HB.out.cell (World.block_lt_of_cell? w _ hx164_16)).trans hx164_16
                  replace hx164_17 := (HB.out.cell (World.block_lt_of_cell? w _ hx164_17)).trans hx164_17
                  replace hx164_18 := (HB.out.cell (World.block_lt_of_cell? w _ hx164_18)).trans hx164_18
                  replace hx164_19 := (HB.out.cell (World.block_lt_of_cell? w _ hx164_19)).trans hx164_19
                  replace hx164_20 := (HB.out.cell (World.block_lt_of_cell? w _ hx164_20)).trans hx164_20
                  replace hx164_21 := (HB.out.cell (World.block_lt_of_cell? w _ hx164_21)).trans hx164_21
                  replace hx164_22 := (HB.out.cell (World.block_lt_of_cell? w _ hx164_22)).trans hx164_22
                  have HR164_8 := Aside0.mk hi164_8
                  have HC164_8 := Aside0.mk hl164_8
                  clear hi164_8 hl164_8
                  have HR164_9 := Aside0.mk hi164_9
                  have HC164_9 := Aside0.mk hl164_9
                  clear hi164_9 hl164_9
                  have HR164_22 := Aside0.mk hi164_22
                  have HC164_22 := Aside0.mk hl164_22
                  clear hi164_22 hl164_22
                  replace p164 := eq_true p164
                  replace q164 := eq_true q164
                  have ea_ := Option.some.inj (hx162_8.symm.trans hx164_8)
                  injection ea_ with ea_ en_ ec_
                  subst ea_
                  subst ec_
                  clear en_
                  have ea_ := Option.some.inj (hx162_9.symm.trans hx164_9)
                  injection ea_ with ea_ en_ ec_
                  subst ea_
                  subst ec_
                  clear en_
                  have ea_ := Option.some.inj (hx162_22.symm.trans hx164_22)
                  injection ea_ with ea_ en_ ec_
                  subst ea_
                  subst ec_
                  clear en_
                  refine start_ (n := 16) (S := fun w' => w'.cell? (ad157.add ((x3_1).toNat * 23)) = some (.int .i64 ((rd_T35 l0 x3_1).f0.f0)) ∧ w'.cell? ⟨(ad157.add ((x3_1).toNat * 23)).block, (ad157.add ((x3_1).toNat * 23)).off + 1, none⟩ = some (.int .i64 ((rd_T35 l0 x3_1).f0.f1)) ∧ w'.cell? ⟨(ad157.add ((x3_1).toNat * 23)).block, (ad157.add ((x3_1).toNat * 23)).off + 2, none⟩ = some (.int .i64 ((rd_T35 l0 x3_1).f0.f2)) ∧ w'.cell? ⟨(ad157.add ((x3_1).toNat * 23)).block, (ad157.add ((x3_1).toNat * 23)).off + 3, none⟩ = some (.int .i64 ((rd_T35 l0 x3_1).f0.f3)) ∧ w'.cell? ⟨(ad157.add ((x3_1).toNat * 23)).block, (ad157.add ((x3_1).toNat * 23)).off + 4, none⟩ = some (.int .i64 ((rd_T35 l0 x3_1).f0.f4)) ∧ w'.cell? ⟨(ad157.add ((x3_1).toNat * 23)).block, (ad157.add ((x3_1).toNat * 23)).off + 5, none⟩ = some (.int .i64 ((rd_T35 l0 x3_1).f0.f5)) ∧ w'.cell? ⟨(ad157.add ((x3_1).toNat * 23)).block, (ad157.add ((x3_1).toNat * 23)).off + 6, none⟩ = some (.string ((rd_T35 l0 x3_1).f0.f6)) ∧ w'.cell? ⟨(ad157.add ((x3_1).toNat * 23)).block, (ad157.add ((x3_1).toNat * 23)).off + 7, none⟩ = some (.int .i64 ((rd_T35 l0 x3_1).f1.f0)) ∧ w'.cell? ⟨(ad157.add ((x3_1).toNat * 23)).block, (ad157.add ((x3_1).toNat * 23)).off + 8, none⟩ = some (.slice A162_8 ((rd_T35 l0 x3_1).f1.f1).length c162_8) ∧ w'.cell? ⟨(ad157.add ((x3_1).toNat * 23)).block, (ad157.add ((x3_1).toNat * 23)).off + 9, none⟩ = some (.slice A162_9 ((rd_T35 l0 x3_1).f1.f2).length c162_9) ∧ w'.cell? ⟨(ad157.add ((x3_1).toNat * 23)).block, (ad157.add ((x3_1).toNat * 23)).off + 10, none⟩ = some (.string ((rd_T35 l0 x3_1).f1.f3)) ∧ w'.cell? ⟨(ad157.add ((x3_1).toNat * 23)).block, (ad157.add ((x3_1).toNat * 23)).off + 11, none⟩ = some (.int .i64 ((rd_T35 l0 x3_1).f1.f4)) ∧ w'.cell? ⟨(ad157.add ((x3_1).toNat * 23)).block, (ad157.add ((x3_1).toNat * 23)).off + 12, none⟩ = some (.int .i64 ((rd_T35 l0 x3_1).f1.f5)) ∧ w'.cell? ⟨(ad157.add ((x3_1).toNat * 23)).block, (ad157.add ((x3_1).toNat * 23)).off + 13, none⟩ = some (.int .i64 ((rd_T35 l0 x3_1).f2)) ∧ w'.cell? ⟨(ad157.add ((x3_1).toNat * 23)).block, (ad157.add ((x3_1).toNat * 23)).off + 14, none⟩ = some (.string ((rd_T35 l0 x3_1).f3)) ∧ w'.cell? ⟨(ad157.add ((x3_1).toNat * 23)).block, (ad157.add ((x3_1).toNat * 23)).off + 15, none⟩ = some (.int .i64 ((rd_T35 l0 x3_1).f4)) ∧ w'.cell? ⟨(ad157.add ((x3_1).toNat * 23)).block, (ad157.add ((x3_1).toNat * 23)).off + 16, none⟩ = some (.int .i64 ((rd_T35 l0 x3_1).f5)) ∧ w'.cell? ⟨(ad157.add ((x3_1).toNat * 23)).block, (ad157.add ((x3_1).toNat * 23)).off + 17, none⟩ = some (.int .i64 ((rd_T35 l0 x3_1).f6)) ∧ w'.cell? ⟨(ad157.add ((x3_1).toNat * 23)).block, (ad157.add ((x3_1).toNat * 23)).off + 18, none⟩ = some (.int .i64 ((rd_T35 l0 x3_1).f7.f0)) ∧ w'.cell? ⟨(ad157.add ((x3_1).toNat * 23)).block, (ad157.add ((x3_1).toNat * 23)).off + 19, none⟩ = some (.int .i64 ((rd_T35 l0 x3_1).f7.f1)) ∧ w'.cell? ⟨(ad157.add ((x3_1).toNat * 23)).block, (ad157.add ((x3_1).toNat * 23)).off + 20, none⟩ = some (.int .i64 ((rd_T35 l0 x3_1).f7.f2)) ∧ w'.cell? ⟨(ad157.add ((x3_1).toNat * 23)).block, (ad157.add ((x3_1).toNat * 23)).off + 21, none⟩ = some (.int .i64 ((rd_T35 l0 x3_1).f7.f3)) ∧ w'.cell? ⟨(ad157.add ((x3_1).toNat * 23)).block, (ad157.add ((x3_1).toNat * 23)).off + 22, none⟩ = some (.slice A162_22 ((rd_T35 l0 x3_1).f8).length c162_22) ∧ w'.cell? (ad157.add ((x3_1).toNat * 23)) = some (.int .i64 ((rd_T35 l0 x3_1).f0.f0)) ∧ w'.cell? ⟨(ad157.add ((x3_1).toNat * 23)).block, (ad157.add ((x3_1).toNat * 23)).off + 1, none⟩ = some (.int .i64 ((rd_T35 l0 x3_1).f0.f1)) ∧ w'.cell? ⟨(ad157.add ((x3_1).toNat * 23)).block, (ad157.add ((x3_1).toNat * 23)).off + 2, none⟩ = some (.int .i64 ((rd_T35 l0 x3_1).f0.f2)) ∧ w'.cell? ⟨(ad157.add ((x3_1).toNat * 23)).block, (ad157.add ((x3_1).toNat * 23)).off + 3, none⟩ = some (.int .i64 ((rd_T35 l0 x3_1).f0.f3)) ∧ w'.cell? ⟨(ad157.add ((x3_1).toNat * 23)).block, (ad157.add ((x3_1).toNat * 23)).off + 4, none⟩ = some (.int .i64 ((rd_T35 l0 x3_1).f0.f4)) ∧ w'.cell? ⟨(ad157.add ((x3_1).toNat * 23)).block, (ad157.add ((x3_1).toNat * 23)).off + 5, none⟩ = some (.int .i64 ((rd_T35 l0 x3_1).f0.f5)) ∧ w'.cell? ⟨(ad157.add ((x3_1).toNat * 23)).block, (ad157.add ((x3_1).toNat * 23)).off + 6, none⟩ = some (.string ((rd_T35 l0 x3_1).f0.f6)) ∧ w'.cell? ⟨(ad157.add ((x3_1).toNat * 23)).block, (ad157.add ((x3_1).toNat * 23)).off + 7, none⟩ = some (.int .i64 ((rd_T35 l0 x3_1).f1.f0)) ∧ w'.cell? ⟨(ad157.add ((x3_1).toNat * 23)).block, (ad157.add ((x3_1).toNat * 23)).off + 8, none⟩ = some (.slice A162_8 ((rd_T35 l0 x3_1).f1.f1).length c162_8) ∧ w'.cell? ⟨(ad157.add ((x3_1).toNat * 23)).block, (ad157.add ((x3_1).toNat * 23)).off + 9, none⟩ = some (.slice A162_9 ((rd_T35 l0 x3_1).f1.f2).length c162_9) ∧ w'.cell? ⟨(ad157.add ((x3_1).toNat * 23)).block, (ad157.add ((x3_1).toNat * 23)).off + 10, none⟩ = some (.string ((rd_T35 l0 x3_1).f1.f3)) ∧ w'.cell? ⟨(ad157.add ((x3_1).toNat * 23)).block, (ad157.add ((x3_1).toNat * 23)).off + 11, none⟩ = some (.int .i64 ((rd_T35 l0 x3_1).f1.f4)) ∧ w'.cell? ⟨(ad157.add ((x3_1).toNat * 23)).block, (ad157.add ((x3_1).toNat * 23)).off + 12, none⟩ = some (.int .i64 ((rd_T35 l0 x3_1).f1.f5)) ∧ w'.cell? ⟨(ad157.add ((x3_1).toNat * 23)).block, (ad157.add ((x3_1).toNat * 23)).off + 13, none⟩ = some (.int .i64 ((rd_T35 l0 x3_1).f2)) ∧ w'.cell? ⟨(ad157.add ((x3_1).toNat * 23)).block, (ad157.add ((x3_1).toNat * 23)).off + 14, none⟩ = some (.string ((rd_T35 l0 x3_1).f3)) ∧ w'.cell? ⟨(ad157.add ((x3_1).toNat * 23)).block, (ad157.add ((x3_1).toNat * 23)).off + 15, none⟩ = some (.int .i64 ((rd_T35 l0 x3_1).f4)) ∧ w'.cell? ⟨(ad157.add ((x3_1).toNat * 23)).block, (ad157.add ((x3_1).toNat * 23)).off + 16, none⟩ = some (.int .i64 ((rd_T35 l0 x3_1).f5)) ∧ w'.cell? ⟨(ad157.add ((x3_1).toNat * 23)).block, (ad157.add ((x3_1).toNat * 23)).off + 17, none⟩ = some (.int .i64 ((rd_T35 l0 x3_1).f6)) ∧ w'.cell? ⟨(ad157.add ((x3_1).toNat * 23)).block, (ad157.add ((x3_1).toNat * 23)).off + 18, none⟩ = some (.int .i64 ((rd_T35 l0 x3_1).f7.f0)) ∧ w'.cell? ⟨(ad157.add ((x3_1).toNat * 23)).block, (ad157.add ((x3_1).toNat * 23)).off + 19, none⟩ = some (.int .i64 ((rd_T35 l0 x3_1).f7.f1)) ∧ w'.cell? ⟨(ad157.add ((x3_1).toNat * 23)).block, (ad157.add ((x3_1).toNat * 23)).off + 20, none⟩ = some (.int .i64 ((rd_T35 l0 x3_1).f7.f2)) ∧ w'.cell? ⟨(ad157.add ((x3_1).toNat * 23)).block, (ad157.add ((x3_1).toNat * 23)).off + 21, none⟩ = some (.int .i64 ((rd_T35 l0 x3_1).f7.f3)) ∧ w'.cell? ⟨(ad157.add ((x3_1).toNat * 23)).block, (ad157.add ((x3_1).toNat * 23)).off + 22, none⟩ = some (.slice A162_22 ((rd_T35 l0 x3_1).f8).length c162_22)) (ds := []) #[false, false, false, false, false, false, false, false, false, false, false, false, false, false, false, false] (by kernel_rfl) rfl rfl ⟨((HB.out.cell (World.block_lt_of_cell? w _ hw162_0)).trans hw162_0), ((HB.out.cell (World.block_lt_of_cell? w _ hw162_1)).trans hw162_1), ((HB.out.cell (World.block_lt_of_cell? w _ hw162_2)).trans hw162_2), ((HB.out.cell (World.block_lt_of_cell? w _ hw162_3)).trans hw162_3), ((HB.out.cell (World.block_lt_of_cell? w _ hw162_4)).trans hw162_4), ((HB.out.cell (World.block_lt_of_cell? w _ hw162_5)).trans hw162_5), ((HB.out.cell (World.block_lt_of_cell? w _ hw162_6)).trans hw162_6), ((HB.out.cell (World.block_lt_of_cell? w _ hw162_7)).trans hw162_7), ((HB.out.cell (World.block_lt_of_cell? w _ hw162_8)).trans hw162_8), ((HB.out.cell (World.block_lt_of_cell? w _ hw162_9)).trans hw162_9), ((HB.out.cell (World.block_lt_of_cell? w _ hw162_10)).trans hw162_10), ((HB.out.cell (World.block_lt_of_cell? w _ hw162_11)).trans hw162_11), ((HB.out.cell (World.block_lt_of_cell? w _ hw162_12)).trans hw162_12), ((HB.out.cell (World.block_lt_of_cell? w _ hw162_13)).trans hw162_13), ((HB.out.cell (World.block_lt_of_cell? w _ hw162_14)).trans hw162_14), ((HB.out.cell (World.block_lt_of_cell? w _ hw162_15)).trans hw162_15), ((HB.out.cell (World.block_lt_of_cell? w _ hw162_16)).trans hw162_16), ((HB.out.cell (World.block_lt_of_cell? w _ hw162_17)).trans hw162_17), ((HB.out.cell (World.block_lt_of_cell? w _ hw162_18)).trans hw162_18), ((HB.out.cell (World.block_lt_of_cell? w _ hw162_19)).trans hw162_19), ((HB.out.cell (World.block_lt_of_cell? w _ hw162_20)).trans hw162_20), ((HB.out.cell (World.block_lt_of_cell? w _ hw162_21)).trans hw162_21), ((HB.out.cell (World.block_lt_of_cell? w _ hw162_22)).trans hw162_22), ((HB.out.cell (World.block_lt_of_cell? w _ hw164_0)).trans hw164_0), ((HB.out.cell (World.block_lt_of_cell? w _ hw164_1)).trans hw164_1), ((HB.out.cell (World.block_lt_of_cell? w _ hw164_2)).trans hw164_2), ((HB.out.cell (World.block_lt_of_cell? w _ hw164_3)).trans hw164_3), ((HB.out.cell (World.block_lt_of_cell? w _ hw164_4)).trans hw164_4), ((HB.out.cell (World.block_lt_of_cell? w _ hw164_5)).trans hw164_5), ((HB.out.cell (World.block_lt_of_cell? w _ hw164_6)).trans hw164_6), ((HB.out.cell (World.block_lt_of_cell? w _ hw164_7)).trans hw164_7), ((HB.out.cell (World.block_lt_of_cell? w _ hw164_8)).trans hw164_8), ((HB.out.cell (World.block_lt_of_cell? w _ hw164_9)).trans hw164_9), ((HB.out.cell (World.block_lt_of_cell? w _ hw164_10)).trans hw164_10), ((HB.out.cell (World.block_lt_of_cell? w _ hw164_11)).trans hw164_11), ((HB.out.cell (World.block_lt_of_cell? w _ hw164_12)).trans hw164_12), ((HB.out.cell (World.block_lt_of_cell? w _ hw164_13)).trans hw164_13), ((HB.out.cell (World.block_lt_of_cell? w _ hw164_14)).trans hw164_14), ((HB.out.cell (World.block_lt_of_cell? w _ hw164_15)).trans hw164_15), ((HB.out.cell (World.block_lt_of_cell? w _ hw164_16)).trans hw164_16), ((HB.out.cell (World.block_lt_of_cell? w _ hw164_17)).trans hw164_17), ((HB.out.cell (World.block_lt_of_cell? w _ hw164_18)).trans hw164_18), ((HB.out.cell (World.block_lt_of_cell? w _ hw164_19)).trans hw164_19), ((HB.out.cell (World.block_lt_of_cell? w _ hw164_20)).trans hw164_20), ((HB.out.cell (World.block_lt_of_cell? w _ hw164_21)).trans hw164_21), ((HB.out.cell (World.block_lt_of_cell? w _ hw164_22)).trans hw164_22)⟩ (fun hHeld => ?_); refine with_tabW gangwaylaw20_StatEvents.tab5 gangwaylaw20_StatEvents.bits5 (fun HT_ HW_ => ?_)
                  generalize w12.drew = w13 at HO160 HB HR162_22 HR162_8 HR162_9 HR164_22 HR164_8 HR164_9 hx162_0 hx162_1 hx162_10 hx162_11 hx162_12 hx162_13 hx162_14 hx162_15 hx162_16 hx162_17 hx162_18 hx162_19 hx162_2 hx162_20 hx162_21 hx162_22 hx162_3 hx162_4 hx162_5 hx162_6 hx162_7 hx162_8 hx162_9 hx164_0 hx164_1 hx164_10 hx164_11 hx164_12 hx164_13 hx164_14 hx164_15 hx164_16 hx164_17 hx164_18 hx164_19 hx164_2 hx164_20 hx164_21 hx164_22 hx164_3 hx164_4 hx164_5 hx164_6 hx164_7 hx164_8 hx164_9 hHeld ⊢
                  refine pure_ (i := 0) (N := some 25) (v := ?_) (a' := ?_) #[true, false, false, false, false, false, false, false, false, false, false, false, false, false, false, false] rfl rfl (any_of HT_.out (by kernel_rfl)) (fun _ _ _ h => h) (Or.inl ⟨by rfl, ?_⟩) ?_ ?_
                  rotate_left
                  · intro w'
                    go_simp
                    with_reducible rfl
                  rotate_left
                  · simp only [Act.put, List.setIfInBounds_toArray, List.set_cons_zero, List.set_cons_succ, i64_w, i32_w]
                    rfl
                  refine pure_ (i := 1) (N := some 26) (v := ?_) (a' := ?_) #[true, true, false, false, false, false, false, false, false, false, false, false, false, false, false, false] rfl rfl (any_of HT_.out (by kernel_rfl)) (fun _ _ _ h => h) (Or.inl ⟨by rfl, ?_⟩) ?_ ?_
                  rotate_left
                  · intro w'
                    go_simp
                    with_reducible rfl
                  rotate_left
                  · simp only [Act.put, List.setIfInBounds_toArray, List.set_cons_zero, List.set_cons_succ, i64_w, i32_w]
                    rfl
                  refine pure_ (i := 2) (N := some 27) (v := ?_) (a' := ?_) #[true, true, true, false, false, false, false, false, false, false, false, false, false, false, false, false] rfl rfl (any_of HT_.out (by kernel_rfl)) (fun _ _ _ h => h) (Or.inl ⟨by rfl, ?_⟩) ?_ ?_
                  rotate_left
                  · intro w'
                    go_simp
                    with_reducible rfl
                  rotate_left
                  · simp only [Act.put, List.setIfInBounds_toArray, List.set_cons_zero, List.set_cons_succ, i64_w, i32_w]
                    rfl
                  refine pure_ (i := 3) (N := some 28) (v := ?_) (a' := ?_) #[true, true, true, true, false, false, false, false, false, false, false, false, false, false, false, false] rfl rfl (any_of HT_.out (by kernel_rfl)) (fun _ _ _ h => h) (Or.inl ⟨by rfl, ?_⟩) ?_ ?_
                  rotate_left
                  · intro w'
                    go_simp
                    with_reducible rfl
                  rotate_left
                  · simp only [Act.put, List.setIfInBounds_toArray, List.set_cons_zero, List.set_cons_succ, i64_w, i32_w]
                    rfl
                  refine pure_ (i := 4) (N := some 29) (v := ?_) (a' := ?_) #[true, true, true, true, true, false, false, false, false, false, false, false, false, false, false, false] rfl rfl (any_of HT_.out (by kernel_rfl)) (fun _ _ _ h => h) (Or.inl ⟨by rfl, ?_⟩) ?_ ?_
                  rotate_left
                  · intro w'
                    go_simp
                    with_reducible rfl
                  rotate_left
                  · simp only [Act.put, List.setIfInBounds_toArray, List.set_cons_zero, List.set_cons_succ, i64_w, i32_w]
                    rfl
                  refine pure_ (i := 5) (N := some 30) (v := ?_) (a' := ?_) #[true, true, true, true, true, true, false, false, false, false, false, false, false, false, false, false] rfl rfl (any_of HT_.out (by kernel_rfl)) (fun _ _ _ h => h) (Or.inl ⟨by rfl, ?_⟩) ?_ ?_
                  rotate_left
                  · intro w'
                    go_simp
                    with_reducible rfl
                  rotate_left
                  · simp only [Act.put, List.setIfInBounds_toArray, List.set_cons_zero, List.set_cons_succ, i64_w, i32_w]
                    rfl
                  refine pure_ (i := 8) (N := some 33) (v := ?_) (a' := ?_) #[true, true, true, true, true, true, false, false, true, false, false, false, false, false, false, false] rfl rfl (any_of HT_.out (by kernel_rfl)) (fun _ _ _ h => h) (Or.inl ⟨by rfl, ?_⟩) ?_ ?_
                  rotate_left
                  · intro w'
                    go_simp
                    with_reducible rfl
                  rotate_left
                  · simp only [Act.put, List.setIfInBounds_toArray, List.set_cons_zero, List.set_cons_succ, i64_w, i32_w]
                    rfl
                  refine pure_ (i := 9) (N := some 34) (v := ?_) (a' := ?_) #[true, true, true, true, true, true, false, false, true, true, false, false, false, false, false, false] rfl rfl (any_of HT_.out (by kernel_rfl)) (fun _ _ _ h => h) (Or.inl ⟨by rfl, ?_⟩) ?_ ?_
                  rotate_left
                  · intro w'
                    go_simp
                    with_reducible rfl
                  rotate_left
                  · simp only [Act.put, List.setIfInBounds_toArray, List.set_cons_zero, List.set_cons_succ, i64_w, i32_w]
                    rfl
                  refine pure_ (i := 10) (N := some 35) (v := ?_) (a' := ?_) #[true, true, true, true, true, true, false, false, true, true, true, false, false, false, false, false] rfl rfl (any_of HT_.out (by kernel_rfl)) (fun _ _ _ h => h) (Or.inl ⟨by rfl, ?_⟩) ?_ ?_
                  rotate_left
                  · intro w'
                    go_simp
                    with_reducible rfl
                  rotate_left
                  · simp only [Act.put, List.setIfInBounds_toArray, List.set_cons_zero, List.set_cons_succ, i64_w, i32_w]
                    rfl
                  refine pure_ (i := 11) (N := some 36) (v := ?_) (a' := ?_) #[true, true, true, true, true, true, false, false, true, true, true, true, false, false, false, false] rfl rfl (any_of HT_.out (by kernel_rfl)) (fun _ _ _ h => h) (Or.inl ⟨by rfl, ?_⟩) ?_ ?_
                  rotate_left
                  · intro w'
                    go_simp
                    with_reducible rfl
                  rotate_left
                  · simp only [Act.put, List.setIfInBounds_toArray, List.set_cons_zero, List.set_cons_succ, i64_w, i32_w]
                    rfl
                  refine take_ (i := 6) (N := some 31) (v := ?_) (a' := ?_) #[true, true, true, true, true, true, true, false, true, true, true, true, false, false, false, false] rfl rfl (take_ofW HT_.out HW_.out (by kernel_rfl)) (fun _ _ _ h => h) (Or.inl ⟨by rfl, ?_⟩) hHeld ?_ ?_
                  rotate_left
                  · rintro w' ⟨s0, s1, s2, s3, s4, s5, s6, s7, s8, s9, s10, s11, s12, s13, s14, s15, s16, s17, s18, s19, s20, s21, s22, s23, s24, s25, s26, s27, s28, s29, s30, s31, s32, s33, s34, s35, s36, s37, s38, s39, s40, s41, s42, s43, s44, s45⟩
                    go_simp
                    with_reducible rfl
                  rotate_left
                  · simp only [Act.put, List.setIfInBounds_toArray, List.set_cons_zero, List.set_cons_succ, i64_w, i32_w]
                    rfl
                  refine take_ (i := 12) (N := some 37) (v := ?_) (a' := ?_) #[true, true, true, true, true, true, true, false, true, true, true, true, true, false, false, false] rfl rfl (take_ofW HT_.out HW_.out (by kernel_rfl)) (fun _ _ _ h => h) (Or.inl ⟨by rfl, ?_⟩) hHeld ?_ ?_
                  rotate_left
                  · rintro w' ⟨s0, s1, s2, s3, s4, s5, s6, s7, s8, s9, s10, s11, s12, s13, s14, s15, s16, s17, s18, s19, s20, s21, s22, s23, s24, s25, s26, s27, s28, s29, s30, s31, s32, s33, s34, s35, s36, s37, s38, s39, s40, s41, s42, s43, s44, s45⟩
                    go_simp
                    with_reducible rfl
                  rotate_left
                  · simp only [Act.put, List.setIfInBounds_toArray, List.set_cons_zero, List.set_cons_succ, i64_w, i32_w]
                    rfl
                  refine one_ (i := 7) (N := some 32) #[true, true, true, true, true, true, true, true, true, true, true, true, true, false, false, false] rfl rfl (one_of HT_.out (by kernel_rfl)) (by decide) (fun K hK => ?_)
                  refine goes_ Try.func12 (by kernel_rfl) rfl #[.agg #[.int .i64 ((rd_T35 l0 x3_1).f7.f0), .int .i64 ((rd_T35 l0 x3_1).f7.f1), .int .i64 ((rd_T35 l0 x3_1).f7.f2), .int .i64 ((rd_T35 l0 x3_1).f7.f3)]] (by rfl) rfl rfl (by (try simp only [List.map_toArray, List.map_cons, List.map_nil]); first | done | rfl | (simp only [List.length_drop, List.length_take]; rfl)) ?_
                  with_reducible refine (gangwayref20_MayEvent.calls ((rd_T35 l0 x3_1).f7.f0) ((rd_T35 l0 x3_1).f7.f1) ((rd_T35 l0 x3_1).f7.f2) ((rd_T35 l0 x3_1).f7.f3) t163 _ A8.out).mono ?_
                  rintro e w14 ⟨rfl, hb⟩
                  refine ⟨_, rfl, ?_⟩
                  have n0_ := Aside0.mk (Kd.R_below (by (with_reducible repeat (first | apply Kd.R_alloc | apply Kd.R_drewN | apply Kd.R_drew)); exact HO160.out) hb)
                  have n1_ := Aside0.mk (below_step (by repeat (first | (with_reducible first | exact HB.out | apply below_alloc | apply pw_below_drewN | apply below_drew1) | exact HB.out)) hb)
                  clear HO160
                  clear HB
                  have HO160 := n0_
                  have HB := n1_
                  clear n0_ n1_
                  (try clear hb)
                  (try clear hb2)
                  (try clear hk)
                  (try clear hi)
                  refine hK.out _ _ ⟨((HB.out.cell (World.block_lt_of_cell? w _ hw162_0)).trans hw162_0), ((HB.out.cell (World.block_lt_of_cell? w _ hw162_1)).trans hw162_1), ((HB.out.cell (World.block_lt_of_cell? w _ hw162_2)).trans hw162_2), ((HB.out.cell (World.block_lt_of_cell? w _ hw162_3)).trans hw162_3), ((HB.out.cell (World.block_lt_of_cell? w _ hw162_4)).trans hw162_4), ((HB.out.cell (World.block_lt_of_cell? w _ hw162_5)).trans hw162_5), ((HB.out.cell (World.block_lt_of_cell? w _ hw162_6)).trans hw162_6), ((HB.out.cell (World.block_lt_of_cell? w _ hw162_7)).trans hw162_7), ((HB.out.cell (World.block_lt_of_cell? w _ hw162_8)).trans hw162_8), ((HB.out.cell (World.block_lt_of_cell? w _ hw162_9)).trans hw162_9), ((HB.out.cell (World.block_lt_of_cell? w _ hw162_10)).trans hw162_10), ((HB.out.cell (World.block_lt_of_cell? w _ hw162_11)).trans hw162_11), ((HB.out.cell (World.block_lt_of_cell? w _ hw162_12)).trans hw162_12), ((HB.out.cell (World.block_lt_of_cell? w _ hw162_13)).trans hw162_13), ((HB.out.cell (World.block_lt_of_cell? w _ hw162_14)).trans hw162_14), ((HB.out.cell (World.block_lt_of_cell? w _ hw162_15)).trans hw162_15), ((HB.out.cell (World.block_lt_of_cell? w _ hw162_16)).trans hw162_16), ((HB.out.cell (World.block_lt_of_cell? w _ hw162_17)).trans hw162_17), ((HB.out.cell (World.block_lt_of_cell? w _ hw162_18)).trans hw162_18), ((HB.out.cell (World.block_lt_of_cell? w _ hw162_19)).trans hw162_19), ((HB.out.cell (World.block_lt_of_cell? w _ hw162_20)).trans hw162_20), ((HB.out.cell (World.block_lt_of_cell? w _ hw162_21)).trans hw162_21), ((HB.out.cell (World.block_lt_of_cell? w _ hw162_22)).trans hw162_22), ((HB.out.cell (World.block_lt_of_cell? w _ hw164_0)).trans hw164_0), ((HB.out.cell (World.block_lt_of_cell? w _ hw164_1)).trans hw164_1), ((HB.out.cell (World.block_lt_of_cell? w _ hw164_2)).trans hw164_2), ((HB.out.cell (World.block_lt_of_cell? w _ hw164_3)).trans hw164_3), ((HB.out.cell (World.block_lt_of_cell? w _ hw164_4)).trans hw164_4), ((HB.out.cell (World.block_lt_of_cell? w _ hw164_5)).trans hw164_5), ((HB.out.cell (World.block_lt_of_cell? w _ hw164_6)).trans hw164_6), ((HB.out.cell (World.block_lt_of_cell? w _ hw164_7)).trans hw164_7), ((HB.out.cell (World.block_lt_of_cell? w _ hw164_8)).trans hw164_8), ((HB.out.cell (World.block_lt_of_cell? w _ hw164_9)).trans hw164_9), ((HB.out.cell (World.block_lt_of_cell? w _ hw164_10)).trans hw164_10), ((HB.out.cell (World.block_lt_of_cell? w _ hw164_11)).trans hw164_11), ((HB.out.cell (World.block_lt_of_cell? w _ hw164_12)).trans hw164_12), ((HB.out.cell (World.block_lt_of_cell? w _ hw164_13)).trans hw164_13), ((HB.out.cell (World.block_lt_of_cell? w _ hw164_14)).trans hw164_14), ((HB.out.cell (World.block_lt_of_cell? w _ hw164_15)).trans hw164_15), ((HB.out.cell (World.block_lt_of_cell? w _ hw164_16)).trans hw164_16), ((HB.out.cell (World.block_lt_of_cell? w _ hw164_17)).trans hw164_17), ((HB.out.cell (World.block_lt_of_cell? w _ hw164_18)).trans hw164_18), ((HB.out.cell (World.block_lt_of_cell? w _ hw164_19)).trans hw164_19), ((HB.out.cell (World.block_lt_of_cell? w _ hw164_20)).trans hw164_20), ((HB.out.cell (World.block_lt_of_cell? w _ hw164_21)).trans hw164_21), ((HB.out.cell (World.block_lt_of_cell? w _ hw164_22)).trans hw164_22)⟩ (fun hHeld => ?_)
                  clear hK K
                  refine norm_ (a' := ?_) ?_ ?_
                  rotate_left
                  · show Act.put _ (some 32) _ = _
                    simp only [Act.put, List.setIfInBounds_toArray, List.set_cons_zero, List.set_cons_succ, i64_w, i32_w]
                    rfl
                  refine one_ (i := 13) (N := some 38) #[true, true, true, true, true, true, true, true, true, true, true, true, true, true, false, false] rfl rfl (one_of HT_.out (by kernel_rfl)) (by decide) (fun K hK => ?_)
                  refine goes_ Try.func13 (by kernel_rfl) rfl #[.agg #[.int .i64 ((rd_T35 l0 x3_1).f7.f0), .int .i64 ((rd_T35 l0 x3_1).f7.f1), .int .i64 ((rd_T35 l0 x3_1).f7.f2), .int .i64 ((rd_T35 l0 x3_1).f7.f3)]] (by rfl) rfl rfl (by (try simp only [List.map_toArray, List.map_cons, List.map_nil]); first | done | rfl | (simp only [List.length_drop, List.length_take]; rfl)) ?_
                  with_reducible refine (gangwayref20_Event.calls kj1 ((rd_T35 l0 x3_1).f7.f0) ((rd_T35 l0 x3_1).f7.f1) ((rd_T35 l0 x3_1).f7.f2) ((rd_T35 l0 x3_1).f7.f3) t165 _ A9.out).mono ?_
                  rintro e w15 ⟨v166, rfl, ho0, hb⟩
                  refine ⟨_, rfl, ?_⟩
                  have n0_ := Aside0.mk (Kd.R_elder' (by (with_reducible repeat (first | apply Kd.R_alloc | apply Kd.R_drewN | apply Kd.R_drew)); exact HO160.out) (Kd.R_base ho0) hb)
                  have n1_ := Aside0.mk (Kd.R_lower (Kd.R_new' ho0 (Kd.R_lt (by (with_reducible repeat (first | apply Kd.R_alloc | apply Kd.R_drewN | apply Kd.R_drew)); exact HO160.out))) (below_size (by repeat (first | (with_reducible first | exact HB.out | apply below_alloc | apply pw_below_drewN | apply below_drew1) | exact HB.out))))
                  have n2_ := Aside0.mk (below_step (by repeat (first | (with_reducible first | exact HB.out | apply below_alloc | apply pw_below_drewN | apply below_drew1) | exact HB.out)) hb)
                  clear HO160
                  clear HB
                  have HO160 := n0_
                  have HO167 := n1_
                  have HB := n2_
                  clear n0_ n1_ n2_
                  (try clear hb)
                  (try clear hb2)
                  (try clear hk)
                  (try clear hi)
                  (try clear ho0)
                  obtain ⟨Ao16, co16, eo16⟩ := Kd.R_slice HO160.out
                  (first | subst eo16 | (injection eo16 with f1_ f2_ f3_; have f4_ := f1_.symm; have f5_ := f3_.symm; clear f1_ f2_ f3_; subst f4_; subst f5_))
                  obtain ⟨Ao17, co17, eo17⟩ := Kd.R_slice HO167.out
                  (first | subst eo17 | (injection eo17 with f1_ f2_ f3_; have f4_ := f1_.symm; have f5_ := f3_.symm; clear f1_ f2_ f3_; subst f4_; subst f5_))
                  refine hK.out _ _ ⟨((HB.out.cell (World.block_lt_of_cell? w _ hw162_0)).trans hw162_0), ((HB.out.cell (World.block_lt_of_cell? w _ hw162_1)).trans hw162_1), ((HB.out.cell (World.block_lt_of_cell? w _ hw162_2)).trans hw162_2), ((HB.out.cell (World.block_lt_of_cell? w _ hw162_3)).trans hw162_3), ((HB.out.cell (World.block_lt_of_cell? w _ hw162_4)).trans hw162_4), ((HB.out.cell (World.block_lt_of_cell? w _ hw162_5)).trans hw162_5), ((HB.out.cell (World.block_lt_of_cell? w _ hw162_6)).trans hw162_6), ((HB.out.cell (World.block_lt_of_cell? w _ hw162_7)).trans hw162_7), ((HB.out.cell (World.block_lt_of_cell? w _ hw162_8)).trans hw162_8), ((HB.out.cell (World.block_lt_of_cell? w _ hw162_9)).trans hw162_9), ((HB.out.cell (World.block_lt_of_cell? w _ hw162_10)).trans hw162_10), ((HB.out.cell (World.block_lt_of_cell? w _ hw162_11)).trans hw162_11), ((HB.out.cell (World.block_lt_of_cell? w _ hw162_12)).trans hw162_12), ((HB.out.cell (World.block_lt_of_cell? w _ hw162_13)).trans hw162_13), ((HB.out.cell (World.block_lt_of_cell? w _ hw162_14)).trans hw162_14), ((HB.out.cell (World.block_lt_of_cell? w _ hw162_15)).trans hw162_15), ((HB.out.cell (World.block_lt_of_cell? w _ hw162_16)).trans hw162_16), ((HB.out.cell (World.block_lt_of_cell? w _ hw162_17)).trans hw162_17), ((HB.out.cell (World.block_lt_of_cell? w _ hw162_18)).trans hw162_18), ((HB.out.cell (World.block_lt_of_cell? w _ hw162_19)).trans hw162_19), ((HB.out.cell (World.block_lt_of_cell? w _ hw162_20)).trans hw162_20), ((HB.out.cell (World.block_lt_of_cell? w _ hw162_21)).trans hw162_21), ((HB.out.cell (World.block_lt_of_cell? w _ hw162_22)).trans hw162_22), ((HB.out.cell (World.block_lt_of_cell? w _ hw164_0)).trans hw164_0), ((HB.out.cell (World.block_lt_of_cell? w _ hw164_1)).trans hw164_1), ((HB.out.cell (World.block_lt_of_cell? w _ hw164_2)).trans hw164_2), ((HB.out.cell (World.block_lt_of_cell? w _ hw164_3)).trans hw164_3), ((HB.out.cell (World.block_lt_of_cell? w _ hw164_4)).trans hw164_4), ((HB.out.cell (World.block_lt_of_cell? w _ hw164_5)).trans hw164_5), ((HB.out.cell (World.block_lt_of_cell? w _ hw164_6)).trans hw164_6), ((HB.out.cell (World.block_lt_of_cell? w _ hw164_7)).trans hw164_7), ((HB.out.cell (World.block_lt_of_cell? w _ hw164_8)).trans hw164_8), ((HB.out.cell (World.block_lt_of_cell? w _ hw164_9)).trans hw164_9), ((HB.out.cell (World.block_lt_of_cell? w _ hw164_10)).trans hw164_10), ((HB.out.cell (World.block_lt_of_cell? w _ hw164_11)).trans hw164_11), ((HB.out.cell (World.block_lt_of_cell? w _ hw164_12)).trans hw164_12), ((HB.out.cell (World.block_lt_of_cell? w _ hw164_13)).trans hw164_13), ((HB.out.cell (World.block_lt_of_cell? w _ hw164_14)).trans hw164_14), ((HB.out.cell (World.block_lt_of_cell? w _ hw164_15)).trans hw164_15), ((HB.out.cell (World.block_lt_of_cell? w _ hw164_16)).trans hw164_16), ((HB.out.cell (World.block_lt_of_cell? w _ hw164_17)).trans hw164_17), ((HB.out.cell (World.block_lt_of_cell? w _ hw164_18)).trans hw164_18), ((HB.out.cell (World.block_lt_of_cell? w _ hw164_19)).trans hw164_19), ((HB.out.cell (World.block_lt_of_cell? w _ hw164_20)).trans hw164_20), ((HB.out.cell (World.block_lt_of_cell? w _ hw164_21)).trans hw164_21), ((HB.out.cell (World.block_lt_of_cell? w _ hw164_22)).trans hw164_22)⟩ (fun hHeld => ?_)
                  clear hK K
                  refine norm_ (a' := ?_) ?_ ?_
                  rotate_left
                  · show Act.put _ (some 38) _ = _
                    simp only [Act.put, List.setIfInBounds_toArray, List.set_cons_zero, List.set_cons_succ, i64_w, i32_w]
                    rfl
                  refine one_ (i := 14) (N := some 39) #[true, true, true, true, true, true, true, true, true, true, true, true, true, true, true, false] rfl rfl (one_of HT_.out (by kernel_rfl)) (by decide) (fun K hK => ?_)
                  refine goes_ Try.func11 (by kernel_rfl) rfl #[.slice Ao16 t158.length co16, .int .i64 t161, .bool t163, .slice Ao17 t165.length co17] (by rfl) rfl rfl (by (try simp only [List.map_toArray, List.map_cons, List.map_nil]); first | done | rfl | (simp only [List.length_drop, List.length_take]; rfl)) ?_
                  with_reducible refine (gangwaylaw20_is.calls kj1 _ _ t158 t161 t163 _ _ t165 true _ ?side1 ?side2 ?side3 ?side4 A10.out).mono ?_
                  (case side1 => repeat (first | exact (Kd.R_reads' HO160.out).2.2 | (with_reducible refine Kd.C_alloc ?_ _) | (with_reducible refine Kd.C_drewN ?_ _) | (with_reducible refine Kd.C_drew ?_)))
                  (case side2 => exact (Kd.R_reads' HO160.out).2.1)
                  (case side3 => repeat (first | exact (Kd.R_reads' HO167.out).2.2 | (with_reducible refine Kd.C_alloc ?_ _) | (with_reducible refine Kd.C_drewN ?_ _) | (with_reducible refine Kd.C_drew ?_)))
                  (case side4 => exact (Kd.R_reads' HO167.out).2.1)
                  rintro e w' ⟨rfl, ⟨nd, rfl⟩⟩
                  refine ⟨_, rfl, ?_⟩
                  refine hK.out _ _ ⟨((HB.out.cell (World.block_lt_of_cell? w _ hw162_0)).trans hw162_0), ((HB.out.cell (World.block_lt_of_cell? w _ hw162_1)).trans hw162_1), ((HB.out.cell (World.block_lt_of_cell? w _ hw162_2)).trans hw162_2), ((HB.out.cell (World.block_lt_of_cell? w _ hw162_3)).trans hw162_3), ((HB.out.cell (World.block_lt_of_cell? w _ hw162_4)).trans hw162_4), ((HB.out.cell (World.block_lt_of_cell? w _ hw162_5)).trans hw162_5), ((HB.out.cell (World.block_lt_of_cell? w _ hw162_6)).trans hw162_6), ((HB.out.cell (World.block_lt_of_cell? w _ hw162_7)).trans hw162_7), ((HB.out.cell (World.block_lt_of_cell? w _ hw162_8)).trans hw162_8), ((HB.out.cell (World.block_lt_of_cell? w _ hw162_9)).trans hw162_9), ((HB.out.cell (World.block_lt_of_cell? w _ hw162_10)).trans hw162_10), ((HB.out.cell (World.block_lt_of_cell? w _ hw162_11)).trans hw162_11), ((HB.out.cell (World.block_lt_of_cell? w _ hw162_12)).trans hw162_12), ((HB.out.cell (World.block_lt_of_cell? w _ hw162_13)).trans hw162_13), ((HB.out.cell (World.block_lt_of_cell? w _ hw162_14)).trans hw162_14), ((HB.out.cell (World.block_lt_of_cell? w _ hw162_15)).trans hw162_15), ((HB.out.cell (World.block_lt_of_cell? w _ hw162_16)).trans hw162_16), ((HB.out.cell (World.block_lt_of_cell? w _ hw162_17)).trans hw162_17), ((HB.out.cell (World.block_lt_of_cell? w _ hw162_18)).trans hw162_18), ((HB.out.cell (World.block_lt_of_cell? w _ hw162_19)).trans hw162_19), ((HB.out.cell (World.block_lt_of_cell? w _ hw162_20)).trans hw162_20), ((HB.out.cell (World.block_lt_of_cell? w _ hw162_21)).trans hw162_21), ((HB.out.cell (World.block_lt_of_cell? w _ hw162_22)).trans hw162_22), ((HB.out.cell (World.block_lt_of_cell? w _ hw164_0)).trans hw164_0), ((HB.out.cell (World.block_lt_of_cell? w _ hw164_1)).trans hw164_1), ((HB.out.cell (World.block_lt_of_cell? w _ hw164_2)).trans hw164_2), ((HB.out.cell (World.block_lt_of_cell? w _ hw164_3)).trans hw164_3), ((HB.out.cell (World.block_lt_of_cell? w _ hw164_4)).trans hw164_4), ((HB.out.cell (World.block_lt_of_cell? w _ hw164_5)).trans hw164_5), ((HB.out.cell (World.block_lt_of_cell? w _ hw164_6)).trans hw164_6), ((HB.out.cell (World.block_lt_of_cell? w _ hw164_7)).trans hw164_7), ((HB.out.cell (World.block_lt_of_cell? w _ hw164_8)).trans hw164_8), ((HB.out.cell (World.block_lt_of_cell? w _ hw164_9)).trans hw164_9), ((HB.out.cell (World.block_lt_of_cell? w _ hw164_10)).trans hw164_10), ((HB.out.cell (World.block_lt_of_cell? w _ hw164_11)).trans hw164_11), ((HB.out.cell (World.block_lt_of_cell? w _ hw164_12)).trans hw164_12), ((HB.out.cell (World.block_lt_of_cell? w _ hw164_13)).trans hw164_13), ((HB.out.cell (World.block_lt_of_cell? w _ hw164_14)).trans hw164_14), ((HB.out.cell (World.block_lt_of_cell? w _ hw164_15)).trans hw164_15), ((HB.out.cell (World.block_lt_of_cell? w _ hw164_16)).trans hw164_16), ((HB.out.cell (World.block_lt_of_cell? w _ hw164_17)).trans hw164_17), ((HB.out.cell (World.block_lt_of_cell? w _ hw164_18)).trans hw164_18), ((HB.out.cell (World.block_lt_of_cell? w _ hw164_19)).trans hw164_19), ((HB.out.cell (World.block_lt_of_cell? w _ hw164_20)).trans hw164_20), ((HB.out.cell (World.block_lt_of_cell? w _ hw164_21)).trans hw164_21), ((HB.out.cell (World.block_lt_of_cell? w _ hw164_22)).trans hw164_22)⟩ (fun hHeld => ?_)
                  clear hK K
                  refine norm_ (a' := ?_) ?_ ?_
                  rotate_left
                  · show Act.put _ (some 39) _ = _
                    simp only [Act.put, List.setIfInBounds_toArray, List.set_cons_zero, List.set_cons_succ, i64_w, i32_w]
                    rfl
                  refine pure_ (i := 15) (N := some 40) (v := ?_) (a' := ?_) #[true, true, true, true, true, true, true, true, true, true, true, true, true, true, true, true] rfl rfl (any_of HT_.out (by kernel_rfl)) (fun _ _ _ h => h) (Or.inl ⟨by rfl, ?_⟩) ?_ ?_
                  rotate_left
                  · intro w'
                    go_simp
                    with_reducible rfl
                  rotate_left
                  · simp only [Act.put, List.setIfInBounds_toArray, List.set_cons_zero, List.set_cons_succ, i64_w, i32_w]
                    rfl
                  refine done_ (done_of HT_.out (by kernel_rfl)) ?_
                  try go_wp2
                  go_roundg kj1
                  case measure => have := HK1.out; have := HJ1.out; omega
                  case rel => exact ⟨(wrap64 (x3_1 + 1)), (by first | rfl | (simp; done) | (simp [*]; done)), H', ⟨by have := HK1.out; have := HJ1.out; omega⟩, ⟨by repeat (first | (with_reducible first | exact HB.out | apply below_alloc | apply pw_below_drewN | apply below_drew1) | exact HB.out)⟩⟩
                · replace c11 := Bool.eq_false_iff.mpr c11
                  subst c11
                  have H1 : (some false) = some r := by rw [if_neg (show ¬ (false = true) by decide)] at H; exact H
                  clear H
                  have H := H1
                  clear H1
                  obtain rfl := Option.some.inj H
                  have p157 : 0 ≤ (x3_1 : Int) := of_decide_eq_true (by first | (with_reducible assumption) | assumption)
                  have q157 : x3_1 < (l0.length : Int) := of_decide_eq_true (by first | (with_reducible assumption) | assumption)
                  obtain ⟨ad157, A157_8, c157_8, A157_9, c157_9, A157_22, c157_22, e157, hx157_0, hx157_1, hx157_2, hx157_3, hx157_4, hx157_5, hx157_6, hx157_7, hx157_8, hx157_9, hx157_10, hx157_11, hx157_12, hx157_13, hx157_14, hx157_15, hx157_16, hx157_17, hx157_18, hx157_19, hx157_20, hx157_21, hx157_22, hl157_8, hi157_8, hl157_9, hi157_9, hl157_22, hi157_22⟩ := at_T35 HR0.out x3_1 p157 q157
                  cases e157
                  replace hx157_0 := (HB.out.cell (World.block_lt_of_cell? w _ hx157_0)).trans hx157_0
                  replace hx157_1 := (HB.out.cell (World.block_lt_of_cell? w _ hx157_1)).trans hx157_1
                  replace hx157_2 := (HB.out.cell (World.block_lt_of_cell? w _ hx157_2)).trans hx157_2
                  replace hx157_3 := (HB.out.cell (World.block_lt_of_cell? w _ hx157_3)).trans hx157_3
                  replace hx157_4 := (HB.out.cell (World.block_lt_of_cell? w _ hx157_4)).trans hx157_4
                  replace hx157_5 := (HB.out.cell (World.block_lt_of_cell? w _ hx157_5)).trans hx157_5
                  replace hx157_6 := (HB.out.cell (World.block_lt_of_cell? w _ hx157_6)).trans hx157_6
                  replace hx157_7 := (HB.out.cell (World.block_lt_of_cell? w _ hx157_7)).trans hx157_7
                  replace hx157_8 := (HB.out.cell (World.block_lt_of_cell? w _ hx157_8)).trans hx157_8
                  replace hx157_9 := (HB.out.cell (World.block_lt_of_cell? w _ hx157_9)).trans hx157_9
                  replace hx157_10 := (HB.out.cell (World.block_lt_of_cell? w _ hx157_10)).trans hx157_10
                  replace hx157_11 := (HB.out.cell (World.block_lt_of_cell? w _ hx157_11)).trans hx157_11
                  replace hx157_12 := (HB.out.cell (World.block_lt_of_cell? w _ hx157_12)).trans hx157_12
                  replace hx157_13 := (HB.out.cell (World.block_lt_of_cell? w _ hx157_13)).trans hx157_13
                  replace hx157_14 := (HB.out.cell (World.block_lt_of_cell? w _ hx157_14)).trans hx157_14
                  replace hx157_15 := (HB.out.cell (World.block_lt_of_cell? w _ hx157_15)).trans hx157_15
                  replace hx157_16 := (HB.out.cell (World.block_lt_of_cell? w _ hx157_16)).trans hx157_16
                  replace hx157_17 := (HB.out.cell (World.block_lt_of_cell? w _ hx157_17)).trans hx157_17
                  replace hx157_18 := (HB.out.cell (World.block_lt_of_cell? w _ hx157_18)).trans hx157_18
                  replace hx157_19 := (HB.out.cell (World.block_lt_of_cell? w _ hx157_19)).trans hx157_19
                  replace hx157_20 := (HB.out.cell (World.block_lt_of_cell? w _ hx157_20)).trans hx157_20
                  replace hx157_21 := (HB.out.cell (World.block_lt_of_cell? w _ hx157_21)).trans hx157_21
                  replace hx157_22 := (HB.out.cell (World.block_lt_of_cell? w _ hx157_22)).trans hx157_22
                  have HR157_8 := Aside0.mk hi157_8
                  have HC157_8 := Aside0.mk hl157_8
                  clear hi157_8 hl157_8
                  have HR157_9 := Aside0.mk hi157_9
                  have HC157_9 := Aside0.mk hl157_9
                  clear hi157_9 hl157_9
                  have HR157_22 := Aside0.mk hi157_22
                  have HC157_22 := Aside0.mk hl157_22
                  clear hi157_22 hl157_22
                  replace p157 := eq_true p157
                  replace q157 := eq_true q157
                  try go_wp2_with (first | ((with_reducible refine gate_callee (f := 10) rfl ?_); refine goesL_ (some 22) rfl rfl Try.func10 (by kernel_rfl) rfl #[.agg #[.int .i64 ((rd_T35 l0 x3_1).f7.f0), .int .i64 ((rd_T35 l0 x3_1).f7.f1), .int .i64 ((rd_T35 l0 x3_1).f7.f2), .int .i64 ((rd_T35 l0 x3_1).f7.f3)]] rfl (by (try simp only [List.map_toArray, List.map_cons, List.map_nil]); first | done | rfl | (simp only [List.length_drop, List.length_take]; rfl)) ?_; (with_reducible refine (stat_Event.calls kj1 ((rd_T35 l0 x3_1).f7.f0) ((rd_T35 l0 x3_1).f7.f1) ((rd_T35 l0 x3_1).f7.f2) ((rd_T35 l0 x3_1).f7.f3) t158 t161 _ A7.out).mono ?_); rintro e w18 ⟨v159, rfl, ho0, hb⟩; refine ⟨_, rfl, ?_⟩; have n0_ := Aside0.mk (Kd.R_lower ho0 (below_size (by repeat (first | (with_reducible first | exact HB.out | apply below_alloc | apply pw_below_drewN | apply below_drew1) | exact HB.out)))); have n1_ := Aside0.mk (below_step (by repeat (first | (with_reducible first | exact HB.out | apply below_alloc | apply pw_below_drewN | apply below_drew1) | exact HB.out)) hb); clear HB; have HO160 := n0_; have HB := n1_; clear n0_ n1_; (try clear hb); (try clear hb2); (try clear hk); (try clear hi); (try clear ho0)))
                  have n0_ := Aside0.mk (Kd.R_drew HO160.out)
                  have n1_ := Aside0.mk (below_drew1 HB.out)
                  clear HO160
                  clear HB
                  have HO160 := n0_
                  have HB := n1_
                  clear n0_ n1_
                  have p162 : 0 ≤ (x3_1 : Int) := of_decide_eq_true (by first | (with_reducible assumption) | assumption)
                  have q162 : x3_1 < (l0.length : Int) := of_decide_eq_true (by first | (with_reducible assumption) | assumption)
                  obtain ⟨ad162, A162_8, c162_8, A162_9, c162_9, A162_22, c162_22, e162, hx162_0, hx162_1, hx162_2, hx162_3, hx162_4, hx162_5, hx162_6, hx162_7, hx162_8, hx162_9, hx162_10, hx162_11, hx162_12, hx162_13, hx162_14, hx162_15, hx162_16, hx162_17, hx162_18, hx162_19, hx162_20, hx162_21, hx162_22, hl162_8, hi162_8, hl162_9, hi162_9, hl162_22, hi162_22⟩ := at_T35 HR0.out x3_1 p162 q162
                  have hw162_22 := hx162_22
                  have hw162_21 := hx162_21
                  have hw162_20 := hx162_20
                  have hw162_19 := hx162_19
                  have hw162_18 := hx162_18
                  have hw162_17 := hx162_17
                  have hw162_16 := hx162_16
                  have hw162_15 := hx162_15
                  have hw162_14 := hx162_14
                  have hw162_13 := hx162_13
                  have hw162_12 := hx162_12
                  have hw162_11 := hx162_11
                  have hw162_10 := hx162_10
                  have hw162_9 := hx162_9
                  have hw162_8 := hx162_8
                  have hw162_7 := hx162_7
                  have hw162_6 := hx162_6
                  have hw162_5 := hx162_5
                  have hw162_4 := hx162_4
                  have hw162_3 := hx162_3
                  have hw162_2 := hx162_2
                  have hw162_1 := hx162_1
                  have hw162_0 := hx162_0
                  obtain rfl : ad157 = ad162 := (by injection e162)
                  replace hx162_0 := (HB.out.cell (World.block_lt_of_cell? w _ hx162_0)).trans hx162_0
                  replace hx162_1 := (HB.out.cell (World.block_lt_of_cell? w _ hx162_1)).trans hx162_1
                  replace hx162_2 := (HB.out.cell (World.block_lt_of_cell? w _ hx162_2)).trans hx162_2
                  replace hx162_3 := (HB.out.cell (World.block_lt_of_cell? w _ hx162_3)).trans hx162_3
                  replace hx162_4 := (HB.out.cell (World.block_lt_of_cell? w _ hx162_4)).trans hx162_4
                  replace hx162_5 := (HB.out.cell (World.block_lt_of_cell? w _ hx162_5)).trans hx162_5
                  replace hx162_6 := (HB.out.cell (World.block_lt_of_cell? w _ hx162_6)).trans hx162_6
                  replace hx162_7 := (HB.out.cell (World.block_lt_of_cell? w _ hx162_7)).trans hx162_7
                  replace hx162_8 := (HB.out.cell (World.block_lt_of_cell? w _ hx162_8)).trans hx162_8
                  replace hx162_9 := (HB.out.cell (World.block_lt_of_cell? w _ hx162_9)).trans hx162_9
                  replace hx162_10 := (HB.out.cell (World.block_lt_of_cell? w _ hx162_10)).trans hx162_10
                  replace hx162_11 := (HB.out.cell (World.block_lt_of_cell? w _ hx162_11)).trans hx162_11
                  replace hx162_12 := (HB.out.cell (World.block_lt_of_cell? w _ hx162_12)).trans hx162_12
                  replace hx162_13 := (HB.out.cell (World.block_lt_of_cell? w _ hx162_13)).trans hx162_13
                  replace hx162_14 := (HB.out.cell (World.block_lt_of_cell? w _ hx162_14)).trans hx162_14
                  replace hx162_15 := (HB.out.cell (World.block_lt_of_cell? w _ hx162_15)).trans hx162_15
                  replace hx162_16 := (HB.out.cell (World.block_lt_of_cell? w _ hx162_16)).trans hx162_16
                  replace hx162_17 := (HB.out.cell (World.block_lt_of_cell? w _ hx162_17)).trans hx162_17
                  replace hx162_18 := (HB.out.cell (World.block_lt_of_cell? w _ hx162_18)).trans hx162_18
                  replace hx162_19 := (HB.out.cell (World.block_lt_of_cell? w _ hx162_19)).trans hx162_19
                  replace hx162_20 := (HB.out.cell (World.block_lt_of_cell? w _ hx162_20)).trans hx162_20
                  replace hx162_21 := (HB.out.cell (World.block_lt_of_cell? w _ hx162_21)).trans hx162_21
                  replace hx162_22 := (HB.out.cell (World.block_lt_of_cell? w _ hx162_22)).trans hx162_22
                  have HR162_8 := Aside0.mk hi162_8
                  have HC162_8 := Aside0.mk hl162_8
                  clear hi162_8 hl162_8
                  have HR162_9 := Aside0.mk hi162_9
                  have HC162_9 := Aside0.mk hl162_9
                  clear hi162_9 hl162_9
                  have HR162_22 := Aside0.mk hi162_22
                  have HC162_22 := Aside0.mk hl162_22
                  clear hi162_22 hl162_22
                  replace p162 := eq_true p162
                  replace q162 := eq_true q162
                  have p164 : 0 ≤ (x3_1 : Int) := of_decide_eq_true (by first | (with_reducible assumption) | assumption)
                  have q164 : x3_1 < (l0.length : Int) := of_decide_eq_true (by first | (with_reducible assumption) | assumption)
                  obtain ⟨ad164, A164_8, c164_8, A164_9, c164_9, A164_22, c164_22, e164, hx164_0, hx164_1, hx164_2, hx164_3, hx164_4, hx164_5, hx164_6, hx164_7, hx164_8, hx164_9, hx164_10, hx164_11, hx164_12, hx164_13, hx164_14, hx164_15, hx164_16, hx164_17, hx164_18, hx164_19, hx164_20, hx164_21, hx164_22, hl164_8, hi164_8, hl164_9, hi164_9, hl164_22, hi164_22⟩ := at_T35 HR0.out x3_1 p164 q164
                  have hw164_22 := hx164_22
                  have hw164_21 := hx164_21
                  have hw164_20 := hx164_20
                  have hw164_19 := hx164_19
                  have hw164_18 := hx164_18
                  have hw164_17 := hx164_17
                  have hw164_16 := hx164_16
                  have hw164_15 := hx164_15
                  have hw164_14 := hx164_14
                  have hw164_13 := hx164_13
                  have hw164_12 := hx164_12
                  have hw164_11 := hx164_11
                  have hw164_10 := hx164_10
                  have hw164_9 := hx164_9
                  have hw164_8 := hx164_8
                  have hw164_7 := hx164_7
                  have hw164_6 := hx164_6
                  have hw164_5 := hx164_5
                  have hw164_4 := hx164_4
                  have hw164_3 := hx164_3
                  have hw164_2 := hx164_2
                  have hw164_1 := hx164_1
                  have hw164_0 := hx164_0
                  obtain rfl : ad157 = ad164 := (by injection e164)
                  replace hx164_0 := (HB.out.cell (World.block_lt_of_cell? w _ hx164_0)).trans hx164_0
                  replace hx164_1 := (HB.out.cell (World.block_lt_of_cell? w _ hx164_1)).trans hx164_1
                  replace hx164_2 := (HB.out.cell (World.block_lt_of_cell? w _ hx164_2)).trans hx164_2
                  replace hx164_3 := (HB.out.cell (World.block_lt_of_cell? w _ hx164_3)).trans hx164_3
                  replace hx164_4 := (HB.out.cell (World.block_lt_of_cell? w _ hx164_4)).trans hx164_4
                  replace hx164_5 := (HB.out.cell (World.block_lt_of_cell? w _ hx164_5)).trans hx164_5
                  replace hx164_6 := (HB.out.cell (World.block_lt_of_cell? w _ hx164_6)).trans hx164_6
                  replace hx164_7 := (HB.out.cell (World.block_lt_of_cell? w _ hx164_7)).trans hx164_7
                  replace hx164_8 := (HB.out.cell (World.block_lt_of_cell? w _ hx164_8)).trans hx164_8
                  replace hx164_9 := (HB.out.cell (World.block_lt_of_cell? w _ hx164_9)).trans hx164_9
                  replace hx164_10 := (HB.out.cell (World.block_lt_of_cell? w _ hx164_10)).trans hx164_10
                  replace hx164_11 := (HB.out.cell (World.block_lt_of_cell? w _ hx164_11)).trans hx164_11
                  replace hx164_12 := (HB.out.cell (World.block_lt_of_cell? w _ hx164_12)).trans hx164_12
                  replace hx164_13 := (HB.out.cell (World.block_lt_of_cell? w _ hx164_13)).trans hx164_13
                  replace hx164_14 := (HB.out.cell (World.block_lt_of_cell? w _ hx164_14)).trans hx164_14
                  replace hx164_15 := (HB.out.cell (World.block_lt_of_cell? w _ hx164_15)).trans hx164_15
                  replace hx164_16 := (HB.out.cell (World.block_lt_of_cell? w _ hx164_16)).trans hx164_16
                  replace hx164_17 := (HB.out.cell (World.block_lt_of_cell? w _ hx164_17)).trans hx164_17
                  replace hx164_18 := (HB.out.cell (World.block_lt_of_cell? w _ hx164_18)).trans hx164_18
                  replace hx164_19 := (HB.out.cell (World.block_lt_of_cell? w _ hx164_19)).trans hx164_19
                  replace hx164_20 := (HB.out.cell (World.block_lt_of_cell? w _ hx164_20)).trans hx164_20
                  replace hx164_21 := (HB.out.cell (World.block_lt_of_cell? w _ hx164_21)).trans hx164_21
                  replace hx164_22 := (HB.out.cell (World.block_lt_of_cell? w _ hx164_22)).trans hx164_22
                  have HR164_8 := Aside0.mk hi164_8
                  have HC164_8 := Aside0.mk hl164_8
                  clear hi164_8 hl164_8
                  have HR164_9 := Aside0.mk hi164_9
                  have HC164_9 := Aside0.mk hl164_9
                  clear hi164_9 hl164_9
                  have HR164_22 := Aside0.mk hi164_22
                  have HC164_22 := Aside0.mk hl164_22
                  clear hi164_22 hl164_22
                  replace p164 := eq_true p164
                  replace q164 := eq_true q164
                  have ea_ := Option.some.inj (hx162_8.symm.trans hx164_8)
                  injection ea_ with ea_ en_ ec_
                  subst ea_
                  subst ec_
                  clear en_
                  have ea_ := Option.some.inj (hx162_9.symm.trans hx164_9)
                  injection ea_ with ea_ en_ ec_
                  subst ea_
                  subst ec_
                  clear en_
                  have ea_ := Option.some.inj (hx162_22.symm.trans hx164_22)
                  injection ea_ with ea_ en_ ec_
                  subst ea_
                  subst ec_
                  clear en_
                  refine start_ (n := 16) (S := fun w' => w'.cell? (ad157.add ((x3_1).toNat * 23)) = some (.int .i64 ((rd_T35 l0 x3_1).f0.f0)) ∧ w'.cell? ⟨(ad157.add ((x3_1).toNat * 23)).block, (ad157.add ((x3_1).toNat * 23)).off + 1, none⟩ = some (.int .i64 ((rd_T35 l0 x3_1).f0.f1)) ∧ w'.cell? ⟨(ad157.add ((x3_1).toNat * 23)).block, (ad157.add ((x3_1).toNat * 23)).off + 2, none⟩ = some (.int .i64 ((rd_T35 l0 x3_1).f0.f2)) ∧ w'.cell? ⟨(ad157.add ((x3_1).toNat * 23)).block, (ad157.add ((x3_1).toNat * 23)).off + 3, none⟩ = some (.int .i64 ((rd_T35 l0 x3_1).f0.f3)) ∧ w'.cell? ⟨(ad157.add ((x3_1).toNat * 23)).block, (ad157.add ((x3_1).toNat * 23)).off + 4, none⟩ = some (.int .i64 ((rd_T35 l0 x3_1).f0.f4)) ∧ w'.cell? ⟨(ad157.add ((x3_1).toNat * 23)).block, (ad157.add ((x3_1).toNat * 23)).off + 5, none⟩ = some (.int .i64 ((rd_T35 l0 x3_1).f0.f5)) ∧ w'.cell? ⟨(ad157.add ((x3_1).toNat * 23)).block, (ad157.add ((x3_1).toNat * 23)).off + 6, none⟩ = some (.string ((rd_T35 l0 x3_1).f0.f6)) ∧ w'.cell? ⟨(ad157.add ((x3_1).toNat * 23)).block, (ad157.add ((x3_1).toNat * 23)).off + 7, none⟩ = some (.int .i64 ((rd_T35 l0 x3_1).f1.f0)) ∧ w'.cell? ⟨(ad157.add ((x3_1).toNat * 23)).block, (ad157.add ((x3_1).toNat * 23)).off + 8, none⟩ = some (.slice A162_8 ((rd_T35 l0 x3_1).f1.f1).length c162_8) ∧ w'.cell? ⟨(ad157.add ((x3_1).toNat * 23)).block, (ad157.add ((x3_1).toNat * 23)).off + 9, none⟩ = some (.slice A162_9 ((rd_T35 l0 x3_1).f1.f2).length c162_9) ∧ w'.cell? ⟨(ad157.add ((x3_1).toNat * 23)).block, (ad157.add ((x3_1).toNat * 23)).off + 10, none⟩ = some (.string ((rd_T35 l0 x3_1).f1.f3)) ∧ w'.cell? ⟨(ad157.add ((x3_1).toNat * 23)).block, (ad157.add ((x3_1).toNat * 23)).off + 11, none⟩ = some (.int .i64 ((rd_T35 l0 x3_1).f1.f4)) ∧ w'.cell? ⟨(ad157.add ((x3_1).toNat * 23)).block, (ad157.add ((x3_1).toNat * 23)).off + 12, none⟩ = some (.int .i64 ((rd_T35 l0 x3_1).f1.f5)) ∧ w'.cell? ⟨(ad157.add ((x3_1).toNat * 23)).block, (ad157.add ((x3_1).toNat * 23)).off + 13, none⟩ = some (.int .i64 ((rd_T35 l0 x3_1).f2)) ∧ w'.cell? ⟨(ad157.add ((x3_1).toNat * 23)).block, (ad157.add ((x3_1).toNat * 23)).off + 14, none⟩ = some (.string ((rd_T35 l0 x3_1).f3)) ∧ w'.cell? ⟨(ad157.add ((x3_1).toNat * 23)).block, (ad157.add ((x3_1).toNat * 23)).off + 15, none⟩ = some (.int .i64 ((rd_T35 l0 x3_1).f4)) ∧ w'.cell? ⟨(ad157.add ((x3_1).toNat * 23)).block, (ad157.add ((x3_1).toNat * 23)).off + 16, none⟩ = some (.int .i64 ((rd_T35 l0 x3_1).f5)) ∧ w'.cell? ⟨(ad157.add ((x3_1).toNat * 23)).block, (ad157.add ((x3_1).toNat * 23)).off + 17, none⟩ = some (.int .i64 ((rd_T35 l0 x3_1).f6)) ∧ w'.cell? ⟨(ad157.add ((x3_1).toNat * 23)).block, (ad157.add ((x3_1).toNat * 23)).off + 18, none⟩ = some (.int .i64 ((rd_T35 l0 x3_1).f7.f0)) ∧ w'.cell? ⟨(ad157.add ((x3_1).toNat * 23)).block, (ad157.add ((x3_1).toNat * 23)).off + 19, none⟩ = some (.int .i64 ((rd_T35 l0 x3_1).f7.f1)) ∧ w'.cell? ⟨(ad157.add ((x3_1).toNat * 23)).block, (ad157.add ((x3_1).toNat * 23)).off + 20, none⟩ = some (.int .i64 ((rd_T35 l0 x3_1).f7.f2)) ∧ w'.cell? ⟨(ad157.add ((x3_1).toNat * 23)).block, (ad157.add ((x3_1).toNat * 23)).off + 21, none⟩ = some (.int .i64 ((rd_T35 l0 x3_1).f7.f3)) ∧ w'.cell? ⟨(ad157.add ((x3_1).toNat * 23)).block, (ad157.add ((x3_1).toNat * 23)).off + 22, none⟩ = some (.slice A162_22 ((rd_T35 l0 x3_1).f8).length c162_22) ∧ w'.cell? (ad157.add ((x3_1).toNat * 23)) = some (.int .i64 ((rd_T35 l0 x3_1).f0.f0)) ∧ w'.cell? ⟨(ad157.add ((x3_1).toNat * 23)).block, (ad157.add ((x3_1).toNat * 23)).off + 1, none⟩ = some (.int .i64 ((rd_T35 l0 x3_1).f0.f1)) ∧ w'.cell? ⟨(ad157.add ((x3_1).toNat * 23)).block, (ad157.add ((x3_1).toNat * 23)).off + 2, none⟩ = some (.int .i64 ((rd_T35 l0 x3_1).f0.f2)) ∧ w'.cell? ⟨(ad157.add ((x3_1).toNat * 23)).block, (ad157.add ((x3_1).toNat * 23)).off + 3, none⟩ = some (.int .i64 ((rd_T35 l0 x3_1).f0.f3)) ∧ w'.cell? ⟨(ad157.add ((x3_1).toNat * 23)).block, (ad157.add ((x3_1).toNat * 23)).off + 4, none⟩ = some (.int .i64 ((rd_T35 l0 x3_1).f0.f4)) ∧ w'.cell? ⟨(ad157.add ((x3_1).toNat * 23)).block, (ad157.add ((x3_1).toNat * 23)).off + 5, none⟩ = some (.int .i64 ((rd_T35 l0 x3_1).f0.f5)) ∧ w'.cell? ⟨(ad157.add ((x3_1).toNat * 23)).block, (ad157.add ((x3_1).toNat * 23)).off + 6, none⟩ = some (.string ((rd_T35 l0 x3_1).f0.f6)) ∧ w'.cell? ⟨(ad157.add ((x3_1).toNat * 23)).block, (ad157.add ((x3_1).toNat * 23)).off + 7, none⟩ = some (.int .i64 ((rd_T35 l0 x3_1).f1.f0)) ∧ w'.cell? ⟨(ad157.add ((x3_1).toNat * 23)).block, (ad157.add ((x3_1).toNat * 23)).off + 8, none⟩ = some (.slice A162_8 ((rd_T35 l0 x3_1).f1.f1).length c162_8) ∧ w'.cell? ⟨(ad157.add ((x3_1).toNat * 23)).block, (ad157.add ((x3_1).toNat * 23)).off + 9, none⟩ = some (.slice A162_9 ((rd_T35 l0 x3_1).f1.f2).length c162_9) ∧ w'.cell? ⟨(ad157.add ((x3_1).toNat * 23)).block, (ad157.add ((x3_1).toNat * 23)).off + 10, none⟩ = some (.string ((rd_T35 l0 x3_1).f1.f3)) ∧ w'.cell? ⟨(ad157.add ((x3_1).toNat * 23)).block, (ad157.add ((x3_1).toNat * 23)).off + 11, none⟩ = some (.int .i64 ((rd_T35 l0 x3_1).f1.f4)) ∧ w'.cell? ⟨(ad157.add ((x3_1).toNat * 23)).block, (ad157.add ((x3_1).toNat * 23)).off + 12, none⟩ = some (.int .i64 ((rd_T35 l0 x3_1).f1.f5)) ∧ w'.cell? ⟨(ad157.add ((x3_1).toNat * 23)).block, (ad157.add ((x3_1).toNat * 23)).off + 13, none⟩ = some (.int .i64 ((rd_T35 l0 x3_1).f2)) ∧ w'.cell? ⟨(ad157.add ((x3_1).toNat * 23)).block, (ad157.add ((x3_1).toNat * 23)).off + 14, none⟩ = some (.string ((rd_T35 l0 x3_1).f3)) ∧ w'.cell? ⟨(ad157.add ((x3_1).toNat * 23)).block, (ad157.add ((x3_1).toNat * 23)).off + 15, none⟩ = some (.int .i64 ((rd_T35 l0 x3_1).f4)) ∧ w'.cell? ⟨(ad157.add ((x3_1).toNat * 23)).block, (ad157.add ((x3_1).toNat * 23)).off + 16, none⟩ = some (.int .i64 ((rd_T35 l0 x3_1).f5)) ∧ w'.cell? ⟨(ad157.add ((x3_1).toNat * 23)).block, (ad157.add ((x3_1).toNat * 23)).off + 17, none⟩ = some (.int .i64 ((rd_T35 l0 x3_1).f6)) ∧ w'.cell? ⟨(ad157.add ((x3_1).toNat * 23)).block, (ad157.add ((x3_1).toNat * 23)).off + 18, none⟩ = some (.int .i64 ((rd_T35 l0 x3_1).f7.f0)) ∧ w'.cell? ⟨(ad157.add ((x3_1).toNat * 23)).block, (ad157.add ((x3_1).toNat * 23)).off + 19, none⟩ = some (.int .i64 ((rd_T35 l0 x3_1).f7.f1)) ∧ w'.cell? ⟨(ad157.add ((x3_1).toNat * 23)).block, (ad157.add ((x3_1).toNat * 23)).off + 20, none⟩ = some (.int .i64 ((rd_T35 l0 x3_1).f7.f2)) ∧ w'.cell? ⟨(ad157.add ((x3_1).toNat * 23)).block, (ad157.add ((x3_1).toNat * 23)).off + 21, none⟩ = some (.int .i64 ((rd_T35 l0 x3_1).f7.f3)) ∧ w'.cell? ⟨(ad157.add ((x3_1).toNat * 23)).block, (ad157.add ((x3_1).toNat * 23)).off + 22, none⟩ = some (.slice A162_22 ((rd_T35 l0 x3_1).f8).length c162_22)) (ds := []) #[false, false, false, false, false, false, false, false, false, false, false, false, false, false, false, false] (by kernel_rfl) rfl rfl ⟨((HB.out.cell (World.block_lt_of_cell? w _ hw162_0)).trans hw162_0), ((HB.out.cell (World.block_lt_of_cell? w _ hw162_1)).trans hw162_1), ((HB.out.cell (World.block_lt_of_cell? w _ hw162_2)).trans hw162_2), ((HB.out.cell (World.block_lt_of_cell? w _ hw162_3)).trans hw162_3), ((HB.out.cell (World.block_lt_of_cell? w _ hw162_4)).trans hw162_4), ((HB.out.cell (World.block_lt_of_cell? w _ hw162_5)).trans hw162_5), ((HB.out.cell (World.block_lt_of_cell? w _ hw162_6)).trans hw162_6), ((HB.out.cell (World.block_lt_of_cell? w _ hw162_7)).trans hw162_7), ((HB.out.cell (World.block_lt_of_cell? w _ hw162_8)).trans hw162_8), ((HB.out.cell (World.block_lt_of_cell? w _ hw162_9)).trans hw162_9), ((HB.out.cell (World.block_lt_of_cell? w _ hw162_10)).trans hw162_10), ((HB.out.cell (World.block_lt_of_cell? w _ hw162_11)).trans hw162_11), ((HB.out.cell (World.block_lt_of_cell? w _ hw162_12)).trans hw162_12), ((HB.out.cell (World.block_lt_of_cell? w _ hw162_13)).trans hw162_13), ((HB.out.cell (World.block_lt_of_cell? w _ hw162_14)).trans hw162_14), ((HB.out.cell (World.block_lt_of_cell? w _ hw162_15)).trans hw162_15), ((HB.out.cell (World.block_lt_of_cell? w _ hw162_16)).trans hw162_16), ((HB.out.cell (World.block_lt_of_cell? w _ hw162_17)).trans hw162_17), ((HB.out.cell (World.block_lt_of_cell? w _ hw162_18)).trans hw162_18), ((HB.out.cell (World.block_lt_of_cell? w _ hw162_19)).trans hw162_19), ((HB.out.cell (World.block_lt_of_cell? w _ hw162_20)).trans hw162_20), ((HB.out.cell (World.block_lt_of_cell? w _ hw162_21)).trans hw162_21), ((HB.out.cell (World.block_lt_of_cell? w _ hw162_22)).trans hw162_22), ((HB.out.cell (World.block_lt_of_cell? w _ hw164_0)).trans hw164_0), ((HB.out.cell (World.block_lt_of_cell? w _ hw164_1)).trans hw164_1), ((HB.out.cell (World.block_lt_of_cell? w _ hw164_2)).trans hw164_2), ((HB.out.cell (World.block_lt_of_cell? w _ hw164_3)).trans hw164_3), ((HB.out.cell (World.block_lt_of_cell? w _ hw164_4)).trans hw164_4), ((HB.out.cell (World.block_lt_of_cell? w _ hw164_5)).trans hw164_5), ((HB.out.cell (World.block_lt_of_cell? w _ hw164_6)).trans hw164_6), ((HB.out.cell (World.block_lt_of_cell? w _ hw164_7)).trans hw164_7), ((HB.out.cell (World.block_lt_of_cell? w _ hw164_8)).trans hw164_8), ((HB.out.cell (World.block_lt_of_cell? w _ hw164_9)).trans hw164_9), ((HB.out.cell (World.block_lt_of_cell? w _ hw164_10)).trans hw164_10), ((HB.out.cell (World.block_lt_of_cell? w _ hw164_11)).trans hw164_11), ((HB.out.cell (World.block_lt_of_cell? w _ hw164_12)).trans hw164_12), ((HB.out.cell (World.block_lt_of_cell? w _ hw164_13)).trans hw164_13), ((HB.out.cell (World.block_lt_of_cell? w _ hw164_14)).trans hw164_14), ((HB.out.cell (World.block_lt_of_cell? w _ hw164_15)).trans hw164_15), ((HB.out.cell (World.block_lt_of_cell? w _ hw164_16)).trans hw164_16), ((HB.out.cell (World.block_lt_of_cell? w _ hw164_17)).trans hw164_17), ((HB.out.cell (World.block_lt_of_cell? w _ hw164_18)).trans hw164_18), ((HB.out.cell (World.block_lt_of_cell? w _ hw164_19)).trans hw164_19), ((HB.out.cell (World.block_lt_of_cell? w _ hw164_20)).trans hw164_20), ((HB.out.cell (World.block_lt_of_cell? w _ hw164_21)).trans hw164_21), ((HB.out.cell (World.block_lt_of_cell? w _ hw164_22)).trans hw164_22)⟩ (fun hHeld => ?_); refine with_tabW gangwaylaw20_StatEvents.tab5 gangwaylaw20_StatEvents.bits5 (fun HT_ HW_ => ?_)
                  generalize w18.drew = w19 at HO160 HB HR162_22 HR162_8 HR162_9 HR164_22 HR164_8 HR164_9 hx162_0 hx162_1 hx162_10 hx162_11 hx162_12 hx162_13 hx162_14 hx162_15 hx162_16 hx162_17 hx162_18 hx162_19 hx162_2 hx162_20 hx162_21 hx162_22 hx162_3 hx162_4 hx162_5 hx162_6 hx162_7 hx162_8 hx162_9 hx164_0 hx164_1 hx164_10 hx164_11 hx164_12 hx164_13 hx164_14 hx164_15 hx164_16 hx164_17 hx164_18 hx164_19 hx164_2 hx164_20 hx164_21 hx164_22 hx164_3 hx164_4 hx164_5 hx164_6 hx164_7 hx164_8 hx164_9 hHeld ⊢
                  refine pure_ (i := 0) (N := some 25) (v := ?_) (a' := ?_) #[true, false, false, false, false, false, false, false, false, false, false, false, false, false, false, false] rfl rfl (any_of HT_.out (by kernel_rfl)) (fun _ _ _ h => h) (Or.inl ⟨by rfl, ?_⟩) ?_ ?_
                  rotate_left
                  · intro w'
                    go_simp
                    with_reducible rfl
                  rotate_left
                  · simp only [Act.put, List.setIfInBounds_toArray, List.set_cons_zero, List.set_cons_succ, i64_w, i32_w]
                    rfl
                  refine pure_ (i := 1) (N := some 26) (v := ?_) (a' := ?_) #[true, true, false, false, false, false, false, false, false, false, false, false, false, false, false, false] rfl rfl (any_of HT_.out (by kernel_rfl)) (fun _ _ _ h => h) (Or.inl ⟨by rfl, ?_⟩) ?_ ?_
                  rotate_left
                  · intro w'
                    go_simp
                    with_reducible rfl
                  rotate_left
                  · simp only [Act.put, List.setIfInBounds_toArray, List.set_cons_zero, List.set_cons_succ, i64_w, i32_w]
                    rfl
                  refine pure_ (i := 2) (N := some 27) (v := ?_) (a' := ?_) #[true, true, true, false, false, false, false, false, false, false, false, false, false, false, false, false] rfl rfl (any_of HT_.out (by kernel_rfl)) (fun _ _ _ h => h) (Or.inl ⟨by rfl, ?_⟩) ?_ ?_
                  rotate_left
                  · intro w'
                    go_simp
                    with_reducible rfl
                  rotate_left
                  · simp only [Act.put, List.setIfInBounds_toArray, List.set_cons_zero, List.set_cons_succ, i64_w, i32_w]
                    rfl
                  refine pure_ (i := 3) (N := some 28) (v := ?_) (a' := ?_) #[true, true, true, true, false, false, false, false, false, false, false, false, false, false, false, false] rfl rfl (any_of HT_.out (by kernel_rfl)) (fun _ _ _ h => h) (Or.inl ⟨by rfl, ?_⟩) ?_ ?_
                  rotate_left
                  · intro w'
                    go_simp
                    with_reducible rfl
                  rotate_left
                  · simp only [Act.put, List.setIfInBounds_toArray, List.set_cons_zero, List.set_cons_succ, i64_w, i32_w]
                    rfl
                  refine pure_ (i := 4) (N := some 29) (v := ?_) (a' := ?_) #[true, true, true, true, true, false, false, false, false, false, false, false, false, false, false, false] rfl rfl (any_of HT_.out (by kernel_rfl)) (fun _ _ _ h => h) (Or.inl ⟨by rfl, ?_⟩) ?_ ?_
                  rotate_left
                  · intro w'
                    go_simp
                    with_reducible rfl
                  rotate_left
                  · simp only [Act.put, List.setIfInBounds_toArray, List.set_cons_zero, List.set_cons_succ, i64_w, i32_w]
                    rfl
                  refine pure_ (i := 5) (N := some 30) (v := ?_) (a' := ?_) #[true, true, true, true, true, true, false, false, false, false, false, false, false, false, false, false] rfl rfl (any_of HT_.out (by kernel_rfl)) (fun _ _ _ h => h) (Or.inl ⟨by rfl, ?_⟩) ?_ ?_
                  rotate_left
                  · intro w'
                    go_simp
                    with_reducible rfl
                  rotate_left
                  · simp only [Act.put, List.setIfInBounds_toArray, List.set_cons_zero, List.set_cons_succ, i64_w, i32_w]
                    rfl
                  refine pure_ (i := 8) (N := some 33) (v := ?_) (a' := ?_) #[true, true, true, true, true, true, false, false, true, false, false, false, false, false, false, false] rfl rfl (any_of HT_.out (by kernel_rfl)) (fun _ _ _ h => h) (Or.inl ⟨by rfl, ?_⟩) ?_ ?_
                  rotate_left
                  · intro w'
                    go_simp
                    with_reducible rfl
                  rotate_left
                  · simp only [Act.put, List.setIfInBounds_toArray, List.set_cons_zero, List.set_cons_succ, i64_w, i32_w]
                    rfl
                  refine pure_ (i := 9) (N := some 34) (v := ?_) (a' := ?_) #[true, true, true, true, true, true, false, false, true, true, false, false, false, false, false, false] rfl rfl (any_of HT_.out (by kernel_rfl)) (fun _ _ _ h => h) (Or.inl ⟨by rfl, ?_⟩) ?_ ?_
                  rotate_left
                  · intro w'
                    go_simp
                    with_reducible rfl
                  rotate_left
                  · simp only [Act.put, List.setIfInBounds_toArray, List.set_cons_zero, List.set_cons_succ, i64_w, i32_w]
                    rfl
                  refine pure_ (i := 10) (N := some 35) (v := ?_) (a' := ?_) #[true, true, true, true, true, true, false, false, true, true, true, false, false, false, false, false] rfl rfl (any_of HT_.out (by kernel_rfl)) (fun _ _ _ h => h) (Or.inl ⟨by rfl, ?_⟩) ?_ ?_
                  rotate_left
                  · intro w'
                    go_simp
                    with_reducible rfl
                  rotate_left
                  · simp only [Act.put, List.setIfInBounds_toArray, List.set_cons_zero, List.set_cons_succ, i64_w, i32_w]
                    rfl
                  refine pure_ (i := 11) (N := some 36) (v := ?_) (a' := ?_) #[true, true, true, true, true, true, false, false, true, true, true, true, false, false, false, false] rfl rfl (any_of HT_.out (by kernel_rfl)) (fun _ _ _ h => h) (Or.inl ⟨by rfl, ?_⟩) ?_ ?_
                  rotate_left
                  · intro w'
                    go_simp
                    with_reducible rfl
                  rotate_left
                  · simp only [Act.put, List.setIfInBounds_toArray, List.set_cons_zero, List.set_cons_succ, i64_w, i32_w]
                    rfl
                  refine take_ (i := 6) (N := some 31) (v := ?_) (a' := ?_) #[true, true, true, true, true, true, true, false, true, true, true, true, false, false, false, false] rfl rfl (take_ofW HT_.out HW_.out (by kernel_rfl)) (fun _ _ _ h => h) (Or.inl ⟨by rfl, ?_⟩) hHeld ?_ ?_
                  rotate_left
                  · rintro w' ⟨s0, s1, s2, s3, s4, s5, s6, s7, s8, s9, s10, s11, s12, s13, s14, s15, s16, s17, s18, s19, s20, s21, s22, s23, s24, s25, s26, s27, s28, s29, s30, s31, s32, s33, s34, s35, s36, s37, s38, s39, s40, s41, s42, s43, s44, s45⟩
                    go_simp
                    with_reducible rfl
                  rotate_left
                  · simp only [Act.put, List.setIfInBounds_toArray, List.set_cons_zero, List.set_cons_succ, i64_w, i32_w]
                    rfl
                  refine take_ (i := 12) (N := some 37) (v := ?_) (a' := ?_) #[true, true, true, true, true, true, true, false, true, true, true, true, true, false, false, false] rfl rfl (take_ofW HT_.out HW_.out (by kernel_rfl)) (fun _ _ _ h => h) (Or.inl ⟨by rfl, ?_⟩) hHeld ?_ ?_
                  rotate_left
                  · rintro w' ⟨s0, s1, s2, s3, s4, s5, s6, s7, s8, s9, s10, s11, s12, s13, s14, s15, s16, s17, s18, s19, s20, s21, s22, s23, s24, s25, s26, s27, s28, s29, s30, s31, s32, s33, s34, s35, s36, s37, s38, s39, s40, s41, s42, s43, s44, s45⟩
                    go_simp
                    with_reducible rfl
                  rotate_left
                  · simp only [Act.put, List.setIfInBounds_toArray, List.set_cons_zero, List.set_cons_succ, i64_w, i32_w]
                    rfl
                  refine one_ (i := 7) (N := some 32) #[true, true, true, true, true, true, true, true, true, true, true, true, true, false, false, false] rfl rfl (one_of HT_.out (by kernel_rfl)) (by decide) (fun K hK => ?_)
                  refine goes_ Try.func12 (by kernel_rfl) rfl #[.agg #[.int .i64 ((rd_T35 l0 x3_1).f7.f0), .int .i64 ((rd_T35 l0 x3_1).f7.f1), .int .i64 ((rd_T35 l0 x3_1).f7.f2), .int .i64 ((rd_T35 l0 x3_1).f7.f3)]] (by rfl) rfl rfl (by (try simp only [List.map_toArray, List.map_cons, List.map_nil]); first | done | rfl | (simp only [List.length_drop, List.length_take]; rfl)) ?_
                  with_reducible refine (gangwayref20_MayEvent.calls ((rd_T35 l0 x3_1).f7.f0) ((rd_T35 l0 x3_1).f7.f1) ((rd_T35 l0 x3_1).f7.f2) ((rd_T35 l0 x3_1).f7.f3) t163 _ A8.out).mono ?_
                  rintro e w20 ⟨rfl, hb⟩
                  refine ⟨_, rfl, ?_⟩
                  have n0_ := Aside0.mk (Kd.R_below (by (with_reducible repeat (first | apply Kd.R_alloc | apply Kd.R_drewN | apply Kd.R_drew)); exact HO160.out) hb)
                  have n1_ := Aside0.mk (below_step (by repeat (first | (with_reducible first | exact HB.out | apply below_alloc | apply pw_below_drewN | apply below_drew1) | exact HB.out)) hb)
                  clear HO160
                  clear HB
                  have HO160 := n0_
                  have HB := n1_
                  clear n0_ n1_
                  (try clear hb)
                  (try clear hb2)
                  (try clear hk)
                  (try clear hi)
                  refine hK.out _ _ ⟨((HB.out.cell (World.block_lt_of_cell? w _ hw162_0)).trans hw162_0), ((HB.out.cell (World.block_lt_of_cell? w _ hw162_1)).trans hw162_1), ((HB.out.cell (World.block_lt_of_cell? w _ hw162_2)).trans hw162_2), ((HB.out.cell (World.block_lt_of_cell? w _ hw162_3)).trans hw162_3), ((HB.out.cell (World.block_lt_of_cell? w _ hw162_4)).trans hw162_4), ((HB.out.cell (World.block_lt_of_cell? w _ hw162_5)).trans hw162_5), ((HB.out.cell (World.block_lt_of_cell? w _ hw162_6)).trans hw162_6), ((HB.out.cell (World.block_lt_of_cell? w _ hw162_7)).trans hw162_7), ((HB.out.cell (World.block_lt_of_cell? w _ hw162_8)).trans hw162_8), ((HB.out.cell (World.block_lt_of_cell? w _ hw162_9)).trans hw162_9), ((HB.out.cell (World.block_lt_of_cell? w _ hw162_10)).trans hw162_10), ((HB.out.cell (World.block_lt_of_cell? w _ hw162_11)).trans hw162_11), ((HB.out.cell (World.block_lt_of_cell? w _ hw162_12)).trans hw162_12), ((HB.out.cell (World.block_lt_of_cell? w _ hw162_13)).trans hw162_13), ((HB.out.cell (World.block_lt_of_cell? w _ hw162_14)).trans hw162_14), ((HB.out.cell (World.block_lt_of_cell? w _ hw162_15)).trans hw162_15), ((HB.out.cell (World.block_lt_of_cell? w _ hw162_16)).trans hw162_16), ((HB.out.cell (World.block_lt_of_cell? w _ hw162_17)).trans hw162_17), ((HB.out.cell (World.block_lt_of_cell? w _ hw162_18)).trans hw162_18), ((HB.out.cell (World.block_lt_of_cell? w _ hw162_19)).trans hw162_19), ((HB.out.cell (World.block_lt_of_cell? w _ hw162_20)).trans hw162_20), ((HB.out.cell (World.block_lt_of_cell? w _ hw162_21)).trans hw162_21), ((HB.out.cell (World.block_lt_of_cell? w _ hw162_22)).trans hw162_22), ((HB.out.cell (World.block_lt_of_cell? w _ hw164_0)).trans hw164_0), ((HB.out.cell (World.block_lt_of_cell? w _ hw164_1)).trans hw164_1), ((HB.out.cell (World.block_lt_of_cell? w _ hw164_2)).trans hw164_2), ((HB.out.cell (World.block_lt_of_cell? w _ hw164_3)).trans hw164_3), ((HB.out.cell (World.block_lt_of_cell? w _ hw164_4)).trans hw164_4), ((HB.out.cell (World.block_lt_of_cell? w _ hw164_5)).trans hw164_5), ((HB.out.cell (World.block_lt_of_cell? w _ hw164_6)).trans hw164_6), ((HB.out.cell (World.block_lt_of_cell? w _ hw164_7)).trans hw164_7), ((HB.out.cell (World.block_lt_of_cell? w _ hw164_8)).trans hw164_8), ((HB.out.cell (World.block_lt_of_cell? w _ hw164_9)).trans hw164_9), ((HB.out.cell (World.block_lt_of_cell? w _ hw164_10)).trans hw164_10), ((HB.out.cell (World.block_lt_of_cell? w _ hw164_11)).trans hw164_11), ((HB.out.cell (World.block_lt_of_cell? w _ hw164_12)).trans hw164_12), ((HB.out.cell (World.block_lt_of_cell? w _ hw164_13)).trans hw164_13), ((HB.out.cell (World.block_lt_of_cell? w _ hw164_14)).trans hw164_14), ((HB.out.cell (World.block_lt_of_cell? w _ hw164_15)).trans hw164_15), ((HB.out.cell (World.block_lt_of_cell? w _ hw164_16)).trans hw164_16), ((HB.out.cell (World.block_lt_of_cell? w _ hw164_17)).trans hw164_17), ((HB.out.cell (World.block_lt_of_cell? w _ hw164_18)).trans hw164_18), ((HB.out.cell (World.block_lt_of_cell? w _ hw164_19)).trans hw164_19), ((HB.out.cell (World.block_lt_of_cell? w _ hw164_20)).trans hw164_20), ((HB.out.cell (World.block_lt_of_cell? w _ hw164_21)).trans hw164_21), ((HB.out.cell (World.block_lt_of_cell? w _ hw164_22)).trans hw164_22)⟩ (fun hHeld => ?_)
                  clear hK K
                  refine norm_ (a' := ?_) ?_ ?_
                  rotate_left
                  · show Act.put _ (some 32) _ = _
                    simp only [Act.put, List.setIfInBounds_toArray, List.set_cons_zero, List.set_cons_succ, i64_w, i32_w]
                    rfl
                  refine one_ (i := 13) (N := some 38) #[true, true, true, true, true, true, true, true, true, true, true, true, true, true, false, false] rfl rfl (one_of HT_.out (by kernel_rfl)) (by decide) (fun K hK => ?_)
                  refine goes_ Try.func13 (by kernel_rfl) rfl #[.agg #[.int .i64 ((rd_T35 l0 x3_1).f7.f0), .int .i64 ((rd_T35 l0 x3_1).f7.f1), .int .i64 ((rd_T35 l0 x3_1).f7.f2), .int .i64 ((rd_T35 l0 x3_1).f7.f3)]] (by rfl) rfl rfl (by (try simp only [List.map_toArray, List.map_cons, List.map_nil]); first | done | rfl | (simp only [List.length_drop, List.length_take]; rfl)) ?_
                  with_reducible refine (gangwayref20_Event.calls kj1 ((rd_T35 l0 x3_1).f7.f0) ((rd_T35 l0 x3_1).f7.f1) ((rd_T35 l0 x3_1).f7.f2) ((rd_T35 l0 x3_1).f7.f3) t165 _ A9.out).mono ?_
                  rintro e w21 ⟨v166, rfl, ho0, hb⟩
                  refine ⟨_, rfl, ?_⟩
                  have n0_ := Aside0.mk (Kd.R_elder' (by (with_reducible repeat (first | apply Kd.R_alloc | apply Kd.R_drewN | apply Kd.R_drew)); exact HO160.out) (Kd.R_base ho0) hb)
                  have n1_ := Aside0.mk (Kd.R_lower (Kd.R_new' ho0 (Kd.R_lt (by (with_reducible repeat (first | apply Kd.R_alloc | apply Kd.R_drewN | apply Kd.R_drew)); exact HO160.out))) (below_size (by repeat (first | (with_reducible first | exact HB.out | apply below_alloc | apply pw_below_drewN | apply below_drew1) | exact HB.out))))
                  have n2_ := Aside0.mk (below_step (by repeat (first | (with_reducible first | exact HB.out | apply below_alloc | apply pw_below_drewN | apply below_drew1) | exact HB.out)) hb)
                  clear HO160
                  clear HB
                  have HO160 := n0_
                  have HO167 := n1_
                  have HB := n2_
                  clear n0_ n1_ n2_
                  (try clear hb)
                  (try clear hb2)
                  (try clear hk)
                  (try clear hi)
                  (try clear ho0)
                  obtain ⟨Ao22, co22, eo22⟩ := Kd.R_slice HO160.out
                  (first | subst eo22 | (injection eo22 with f1_ f2_ f3_; have f4_ := f1_.symm; have f5_ := f3_.symm; clear f1_ f2_ f3_; subst f4_; subst f5_))
                  obtain ⟨Ao23, co23, eo23⟩ := Kd.R_slice HO167.out
                  (first | subst eo23 | (injection eo23 with f1_ f2_ f3_; have f4_ := f1_.symm; have f5_ := f3_.symm; clear f1_ f2_ f3_; subst f4_; subst f5_))
                  refine hK.out _ _ ⟨((HB.out.cell (World.block_lt_of_cell? w _ hw162_0)).trans hw162_0), ((HB.out.cell (World.block_lt_of_cell? w _ hw162_1)).trans hw162_1), ((HB.out.cell (World.block_lt_of_cell? w _ hw162_2)).trans hw162_2), ((HB.out.cell (World.block_lt_of_cell? w _ hw162_3)).trans hw162_3), ((HB.out.cell (World.block_lt_of_cell? w _ hw162_4)).trans hw162_4), ((HB.out.cell (World.block_lt_of_cell? w _ hw162_5)).trans hw162_5), ((HB.out.cell (World.block_lt_of_cell? w _ hw162_6)).trans hw162_6), ((HB.out.cell (World.block_lt_of_cell? w _ hw162_7)).trans hw162_7), ((HB.out.cell (World.block_lt_of_cell? w _ hw162_8)).trans hw162_8), ((HB.out.cell (World.block_lt_of_cell? w _ hw162_9)).trans hw162_9), ((HB.out.cell (World.block_lt_of_cell? w _ hw162_10)).trans hw162_10), ((HB.out.cell (World.block_lt_of_cell? w _ hw162_11)).trans hw162_11), ((HB.out.cell (World.block_lt_of_cell? w _ hw162_12)).trans hw162_12), ((HB.out.cell (World.block_lt_of_cell? w _ hw162_13)).trans hw162_13), ((HB.out.cell (World.block_lt_of_cell? w _ hw162_14)).trans hw162_14), ((HB.out.cell (World.block_lt_of_cell? w _ hw162_15)).trans hw162_15), ((HB.out.cell (World.block_lt_of_cell? w _ hw162_16)).trans hw162_16), ((HB.out.cell (World.block_lt_of_cell? w _ hw162_17)).trans hw162_17), ((HB.out.cell (World.block_lt_of_cell? w _ hw162_18)).trans hw162_18), ((HB.out.cell (World.block_lt_of_cell? w _ hw162_19)).trans hw162_19), ((HB.out.cell (World.block_lt_of_cell? w _ hw162_20)).trans hw162_20), ((HB.out.cell (World.block_lt_of_cell? w _ hw162_21)).trans hw162_21), ((HB.out.cell (World.block_lt_of_cell? w _ hw162_22)).trans hw162_22), ((HB.out.cell (World.block_lt_of_cell? w _ hw164_0)).trans hw164_0), ((HB.out.cell (World.block_lt_of_cell? w _ hw164_1)).trans hw164_1), ((HB.out.cell (World.block_lt_of_cell? w _ hw164_2)).trans hw164_2), ((HB.out.cell (World.block_lt_of_cell? w _ hw164_3)).trans hw164_3), ((HB.out.cell (World.block_lt_of_cell? w _ hw164_4)).trans hw164_4), ((HB.out.cell (World.block_lt_of_cell? w _ hw164_5)).trans hw164_5), ((HB.out.cell (World.block_lt_of_cell? w _ hw164_6)).trans hw164_6), ((HB.out.cell (World.block_lt_of_cell? w _ hw164_7)).trans hw164_7), ((HB.out.cell (World.block_lt_of_cell? w _ hw164_8)).trans hw164_8), ((HB.out.cell (World.block_lt_of_cell? w _ hw164_9)).trans hw164_9), ((HB.out.cell (World.block_lt_of_cell? w _ hw164_10)).trans hw164_10), ((HB.out.cell (World.block_lt_of_cell? w _ hw164_11)).trans hw164_11), ((HB.out.cell (World.block_lt_of_cell? w _ hw164_12)).trans hw164_12), ((HB.out.cell (World.block_lt_of_cell? w _ hw164_13)).trans hw164_13), ((HB.out.cell (World.block_lt_of_cell? w _ hw164_14)).trans hw164_14), ((HB.out.cell (World.block_lt_of_cell? w _ hw164_15)).trans hw164_15), ((HB.out.cell (World.block_lt_of_cell? w _ hw164_16)).trans hw164_16), ((HB.out.cell (World.block_lt_of_cell? w _ hw164_17)).trans hw164_17), ((HB.out.cell (World.block_lt_of_cell? w _ hw164_18)).trans hw164_18), ((HB.out.cell (World.block_lt_of_cell? w _ hw164_19)).trans hw164_19), ((HB.out.cell (World.block_lt_of_cell? w _ hw164_20)).trans hw164_20), ((HB.out.cell (World.block_lt_of_cell? w _ hw164_21)).trans hw164_21), ((HB.out.cell (World.block_lt_of_cell? w _ hw164_22)).trans hw164_22)⟩ (fun hHeld => ?_)
                  clear hK K
                  refine norm_ (a' := ?_) ?_ ?_
                  rotate_left
                  · show Act.put _ (some 38) _ = _
                    simp only [Act.put, List.setIfInBounds_toArray, List.set_cons_zero, List.set_cons_succ, i64_w, i32_w]
                    rfl
                  refine one_ (i := 14) (N := some 39) #[true, true, true, true, true, true, true, true, true, true, true, true, true, true, true, false] rfl rfl (one_of HT_.out (by kernel_rfl)) (by decide) (fun K hK => ?_)
                  refine goes_ Try.func11 (by kernel_rfl) rfl #[.slice Ao22 t158.length co22, .int .i64 t161, .bool t163, .slice Ao23 t165.length co23] (by rfl) rfl rfl (by (try simp only [List.map_toArray, List.map_cons, List.map_nil]); first | done | rfl | (simp only [List.length_drop, List.length_take]; rfl)) ?_
                  with_reducible refine (gangwaylaw20_is.calls kj1 _ _ t158 t161 t163 _ _ t165 false _ ?side1 ?side2 ?side3 ?side4 A10.out).mono ?_
                  (case side1 => repeat (first | exact (Kd.R_reads' HO160.out).2.2 | (with_reducible refine Kd.C_alloc ?_ _) | (with_reducible refine Kd.C_drewN ?_ _) | (with_reducible refine Kd.C_drew ?_)))
                  (case side2 => exact (Kd.R_reads' HO160.out).2.1)
                  (case side3 => repeat (first | exact (Kd.R_reads' HO167.out).2.2 | (with_reducible refine Kd.C_alloc ?_ _) | (with_reducible refine Kd.C_drewN ?_ _) | (with_reducible refine Kd.C_drew ?_)))
                  (case side4 => exact (Kd.R_reads' HO167.out).2.1)
                  rintro e w' ⟨rfl, ⟨nd, rfl⟩⟩
                  refine ⟨_, rfl, ?_⟩
                  refine hK.out _ _ ⟨((HB.out.cell (World.block_lt_of_cell? w _ hw162_0)).trans hw162_0), ((HB.out.cell (World.block_lt_of_cell? w _ hw162_1)).trans hw162_1), ((HB.out.cell (World.block_lt_of_cell? w _ hw162_2)).trans hw162_2), ((HB.out.cell (World.block_lt_of_cell? w _ hw162_3)).trans hw162_3), ((HB.out.cell (World.block_lt_of_cell? w _ hw162_4)).trans hw162_4), ((HB.out.cell (World.block_lt_of_cell? w _ hw162_5)).trans hw162_5), ((HB.out.cell (World.block_lt_of_cell? w _ hw162_6)).trans hw162_6), ((HB.out.cell (World.block_lt_of_cell? w _ hw162_7)).trans hw162_7), ((HB.out.cell (World.block_lt_of_cell? w _ hw162_8)).trans hw162_8), ((HB.out.cell (World.block_lt_of_cell? w _ hw162_9)).trans hw162_9), ((HB.out.cell (World.block_lt_of_cell? w _ hw162_10)).trans hw162_10), ((HB.out.cell (World.block_lt_of_cell? w _ hw162_11)).trans hw162_11), ((HB.out.cell (World.block_lt_of_cell? w _ hw162_12)).trans hw162_12), ((HB.out.cell (World.block_lt_of_cell? w _ hw162_13)).trans hw162_13), ((HB.out.cell (World.block_lt_of_cell? w _ hw162_14)).trans hw162_14), ((HB.out.cell (World.block_lt_of_cell? w _ hw162_15)).trans hw162_15), ((HB.out.cell (World.block_lt_of_cell? w _ hw162_16)).trans hw162_16), ((HB.out.cell (World.block_lt_of_cell? w _ hw162_17)).trans hw162_17), ((HB.out.cell (World.block_lt_of_cell? w _ hw162_18)).trans hw162_18), ((HB.out.cell (World.block_lt_of_cell? w _ hw162_19)).trans hw162_19), ((HB.out.cell (World.block_lt_of_cell? w _ hw162_20)).trans hw162_20), ((HB.out.cell (World.block_lt_of_cell? w _ hw162_21)).trans hw162_21), ((HB.out.cell (World.block_lt_of_cell? w _ hw162_22)).trans hw162_22), ((HB.out.cell (World.block_lt_of_cell? w _ hw164_0)).trans hw164_0), ((HB.out.cell (World.block_lt_of_cell? w _ hw164_1)).trans hw164_1), ((HB.out.cell (World.block_lt_of_cell? w _ hw164_2)).trans hw164_2), ((HB.out.cell (World.block_lt_of_cell? w _ hw164_3)).trans hw164_3), ((HB.out.cell (World.block_lt_of_cell? w _ hw164_4)).trans hw164_4), ((HB.out.cell (World.block_lt_of_cell? w _ hw164_5)).trans hw164_5), ((HB.out.cell (World.block_lt_of_cell? w _ hw164_6)).trans hw164_6), ((HB.out.cell (World.block_lt_of_cell? w _ hw164_7)).trans hw164_7), ((HB.out.cell (World.block_lt_of_cell? w _ hw164_8)).trans hw164_8), ((HB.out.cell (World.block_lt_of_cell? w _ hw164_9)).trans hw164_9), ((HB.out.cell (World.block_lt_of_cell? w _ hw164_10)).trans hw164_10), ((HB.out.cell (World.block_lt_of_cell? w _ hw164_11)).trans hw164_11), ((HB.out.cell (World.block_lt_of_cell? w _ hw164_12)).trans hw164_12), ((HB.out.cell (World.block_lt_of_cell? w _ hw164_13)).trans hw164_13), ((HB.out.cell (World.block_lt_of_cell? w _ hw164_14)).trans hw164_14), ((HB.out.cell (World.block_lt_of_cell? w _ hw164_15)).trans hw164_15), ((HB.out.cell (World.block_lt_of_cell? w _ hw164_16)).trans hw164_16), ((HB.out.cell (World.block_lt_of_cell? w _ hw164_17)).trans hw164_17), ((HB.out.cell (World.block_lt_of_cell? w _ hw164_18)).trans hw164_18), ((HB.out.cell (World.block_lt_of_cell? w _ hw164_19)).trans hw164_19), ((HB.out.cell (World.block_lt_of_cell? w _ hw164_20)).trans hw164_20), ((HB.out.cell (World.block_lt_of_cell? w _ hw164_21)).trans hw164_21), ((HB.out.cell (World.block_lt_of_cell? w _ hw164_22)).trans hw164_22)⟩ (fun hHeld => ?_)
                  clear hK K
                  refine norm_ (a' := ?_) ?_ ?_
                  rotate_left
                  · show Act.put _ (some 39) _ = _
                    simp only [Act.put, List.setIfInBounds_toArray, List.set_cons_zero, List.set_cons_succ, i64_w, i32_w]
                    rfl
                  refine pure_ (i := 15) (N := some 40) (v := ?_) (a' := ?_) #[true, true, true, true, true, true, true, true, true, true, true, true, true, true, true, true] rfl rfl (any_of HT_.out (by kernel_rfl)) (fun _ _ _ h => h) (Or.inl ⟨by rfl, ?_⟩) ?_ ?_
                  rotate_left
                  · intro w'
                    go_simp
                    with_reducible rfl
                  rotate_left
                  · simp only [Act.put, List.setIfInBounds_toArray, List.set_cons_zero, List.set_cons_succ, i64_w, i32_w]
                    rfl
                  refine done_ (done_of HT_.out (by kernel_rfl)) ?_
                  try go_wp2
                  go_ret
                  exact ⟨by first | rfl | (simp [errW_none, errW_some] <;> rfl) | (simp [*, errW_none, errW_some] <;> rfl), by repeat (first | (with_reducible first | exact HB.out | apply below_alloc | apply pw_below_drewN | apply below_drew1) | exact HB.out)⟩
              · rw [if_neg c6] at H
                exact absurd H (by simp)
            · rw [if_neg c5] at H
              exact absurd H (by simp)
          · replace c4 := Bool.eq_false_iff.mpr c4
            subst c4
            have H1 : ((gangwaylaw20_wakes.f kj1).bind fun t156 => (some t156)) = some r := by rw [if_neg (show ¬ (false = true) by decide)] at H; exact H
            clear H
            have H := H1
            clear H1
            replace H := Option.bind_eq_some_iff.mp H
            obtain ⟨t156, A240, H⟩ := H
            replace H : (some t156) = some r := H
            have A24 := Aside0.mk A240
            clear A240
            obtain rfl := Option.some.inj H
            go_wp2_with (first | ((with_reducible refine gate_callee (f := 14) rfl ?_); refine goesL_ (some 41) rfl rfl Try.func14 (by kernel_rfl) rfl #[] rfl (by (try simp only [List.map_toArray, List.map_cons, List.map_nil]); first | done | rfl | (simp only [List.length_drop, List.length_take]; rfl)) ?_; (with_reducible refine (gangwaylaw20_wakes.calls kj1  t156 _ A24.out).mono ?_); rintro e w25 ⟨rfl, hb⟩; refine ⟨_, rfl, ?_⟩; have n0_ := Aside0.mk (below_step (by repeat (first | (with_reducible first | exact HB.out | apply below_alloc | apply pw_below_drewN | apply below_drew1) | exact HB.out)) hb); clear HB; have HB := n0_; clear n0_; (try clear hb); (try clear hb2); (try clear hk); (try clear hi)))
            go_ret
            exact ⟨by first | rfl | (simp [errW_none, errW_some] <;> rfl) | (simp [*, errW_none, errW_some] <;> rfl), by repeat (first | (with_reducible first | exact HB.out | apply below_alloc | apply pw_below_drewN | apply below_drew1) | exact HB.out)⟩

/-- THE ONE PURE STATEMENT of gangwaylaw20_StatEvents: yours. -/
def gangwaylaw20_StatEvents.Pure : Prop := ∀ (x0 : List (S35)), (x0.length * 256 ≤ 140737488351232 ∧ ∀ y172 ∈ x0, okT35 y172) → ∃ k, gangwaylaw20_StatEvents.f k x0 = some true
theorem gangwaylaw20_StatEvents.walk (P : gangwaylaw20_StatEvents.Pure) (w : World) (x0 : List (S35)) (A0 : Option Addr) (c0 : Nat) (hr0 : Kd.C k35 w A0 x0.length x0) (hc0 : x0.length ≤ c0) (hok0 : (x0.length * 256 ≤ 140737488351232 ∧ ∀ y173 ∈ x0, okT35 y173)) :
    Calls Try.prog 3 #[.slice A0 x0.length c0] w fun e w' => e = .returned (.bool true) ∧ Below w.heap.size w w' := by
  obtain ⟨k, h⟩ := P x0 hok0
  refine (gangwaylaw20_StatEvents.calls k _ _ x0 true w hr0 hc0 h).mono ?_
  rintro e w' ⟨rfl, hd⟩
  exact ⟨rfl, hd⟩

end Go.Proofs.Ythhmnecnoojcpaa.PAll
