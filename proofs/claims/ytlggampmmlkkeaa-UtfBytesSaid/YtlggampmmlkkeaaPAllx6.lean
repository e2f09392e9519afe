/- Printed by a copy of the printer that was turned for this claim: functions as plain Lean functions, with proofs that their calls come to these; or words that such proofs use. -/
import Derived.Test.YtlggampmmlkkeaaPAllx0
import Derived.Test.YtlggampmmlkkeaaPAllx1
import Derived.Test.YtlggampmmlkkeaaPAllx2
import Derived.Test.YtlggampmmlkkeaaPAllx3
import Derived.Test.YtlggampmmlkkeaaPAllx4
import Derived.Test.YtlggampmmlkkeaaPAllx5
namespace Go.Proofs.Ytlggampmmlkkeaa.PAll
open Go.RowKit Go.Proofs.YtlggampmmlkkeaaW.PrintWords Go.Proofs.YtlggampmmlkkeaaW.PrintLast Go.Proofs.YtlggampmmlkkeaaW.PrintMore
attribute [local go_sem] max2_int min2_int max_two min_two max_three min_three max_four min_four   -- for this text's walks alone
set_option linter.unusedVariables false
set_option linter.unusedSimpArgs false

/-! ### gangwaylaw2_UtfBytes: function 4 -/
mutual
def gangwaylaw2_UtfBytes.l0 : Nat → List (S27) → Int → Option (Bool)
  | 0, _, _ => none
  | k + 1, x0, x3 => if x3 < (x0.length : Int) then (gangwaylaw2_UtfBytes.j1 k x0 x3 (decide (x3 < 20))) else (gangwaylaw2_UtfBytes.j1 k x0 x3 false)
def gangwaylaw2_UtfBytes.j1 : Nat → List (S27) → Int → Bool → Option (Bool)
  | 0, _, _, _ => none
  | k + 1, x0, x3, x16 => if x16 = true then (if 0 ≤ x3 then (if x3 < (x0.length : Int) then ((gangwaylaw2_heavy.f ((rd_T27 x0 x3).f0) ((rd_T27 x0 x3).f1)).bind fun t253 => (if t253 = true then (some true) else (gangwaylaw2_UtfBytes.l1 k x0 x3 0 ([] : List Int) 0))) else (none)) else (none)) else ((gangwaylaw2_wakes.f k).bind fun t251 => (some t251))
def gangwaylaw2_UtfBytes.l1 : Nat → List (S27) → Int → Int → List Int → Int → Option (Bool)
  | 0, _, _, _, _, _ => none
  | k + 1, x0, x3, x4, x5, x6 => if 0 ≤ x3 then (if x3 < (x0.length : Int) then (if x6 < (((rd_T27 x0 x3).f1).length : Int) then (if 0 ≤ x6 then ((gangwayref1_Point.f (rd ((rd_T27 x0 x3).f1) x6)).bind fun t257 => (if t257 = true then ((gangwayref1_Put.f (rd ((rd_T27 x0 x3).f1) x6)).bind fun t260 => (if x5.length + t260.length < 140737488355328 then (gangwaylaw2_UtfBytes.l1 k x0 x3 x4 (x5 ++ t260) (wrap64 (x6 + 1))) else (none))) else (gangwaylaw2_UtfBytes.l1 k x0 x3 100 x5 (wrap64 (x6 + 1))))) else (none)) else (if x4 = 0 then (gangwaylaw2_UtfBytes.j3 k x0 x3 x4 x5) else (gangwaylaw2_UtfBytes.j3 k x0 x3 x4 ([] : List Int)))) else (none)) else (none)
def gangwaylaw2_UtfBytes.j3 : Nat → List (S27) → Int → Int → List Int → Option (Bool)
  | 0, _, _, _, _ => none
  | k + 1, x0, x3, x4, x5 => if 0 ≤ x3 then (if x3 < (x0.length : Int) then ((utf_Bytes.f k ((rd_T27 x0 x3).f1)).bind fun bt267 => ((gangwaylaw2_num.f bt267.2).bind fun t271 => (if t271 = x4 then ((gangwayref0_EqBytes.f k bt267.1 x5).bind fun t272 => (if t272 = true then (gangwaylaw2_UtfBytes.l0 k x0 (wrap64 (x3 + 1))) else (some false))) else (some false)))) else (none)) else (none)
end
def gangwaylaw2_UtfBytes.f (k : Nat) (l0 : List (S27)) : Option (Bool) := gangwaylaw2_UtfBytes.l0 k l0 0
theorem gangwaylaw2_UtfBytes.mono_l : ∀ k, (∀ y0 y1, LeO (gangwaylaw2_UtfBytes.l0 k y0 y1) (gangwaylaw2_UtfBytes.l0 (k + 1) y0 y1)) ∧ (∀ y0 y1 y2, LeO (gangwaylaw2_UtfBytes.j1 k y0 y1 y2) (gangwaylaw2_UtfBytes.j1 (k + 1) y0 y1 y2)) ∧ (∀ y0 y1 y2 y3 y4, LeO (gangwaylaw2_UtfBytes.l1 k y0 y1 y2 y3 y4) (gangwaylaw2_UtfBytes.l1 (k + 1) y0 y1 y2 y3 y4)) ∧ (∀ y0 y1 y2 y3, LeO (gangwaylaw2_UtfBytes.j3 k y0 y1 y2 y3) (gangwaylaw2_UtfBytes.j3 (k + 1) y0 y1 y2 y3))
  | 0 => ⟨fun _ _ r h => by simp [gangwaylaw2_UtfBytes.l0] at h, fun _ _ _ r h => by simp [gangwaylaw2_UtfBytes.j1] at h, fun _ _ _ _ _ r h => by simp [gangwaylaw2_UtfBytes.l1] at h, fun _ _ _ _ r h => by simp [gangwaylaw2_UtfBytes.j3] at h⟩
  | k + 1 => by
    obtain ⟨ih0, ih1, ih2, ih3⟩ := gangwaylaw2_UtfBytes.mono_l k
    refine ⟨?_, ?_, ?_, ?_⟩
    · intro y0 y1
      unfold gangwaylaw2_UtfBytes.l0
      repeat' first
      | (with_reducible exact ih0 _ _)
      | (with_reducible exact ih1 _ _ _)
      | (with_reducible exact ih2 _ _ _ _ _)
      | (with_reducible exact ih3 _ _ _ _)
      | (with_reducible exact gangwaylaw2_wakes.mono _)
      | (with_reducible exact gangwayref0_EqBytes.mono _ _ _)
      | (with_reducible exact utf_Bytes.mono _ _)
      | (with_reducible exact LeO.refl _)
      | (with_reducible exact LeO.none _)
      | (with_reducible refine LeO.ite ?_ ?_)
      | (with_reducible refine LeO.bind ?_ (fun _ => ?_))
      | exact ih0 _ _
      | exact ih1 _ _ _
      | exact ih2 _ _ _ _ _
      | exact ih3 _ _ _ _
      | exact gangwaylaw2_wakes.mono _
      | exact gangwayref0_EqBytes.mono _ _ _
      | exact utf_Bytes.mono _ _
      | exact LeO.none _
      | refine LeO.ite ?_ ?_
      | refine LeO.bind ?_ (fun _ => ?_)
    · intro y0 y1 y2
      unfold gangwaylaw2_UtfBytes.j1
      repeat' first
      | (with_reducible exact ih0 _ _)
      | (with_reducible exact ih1 _ _ _)
      | (with_reducible exact ih2 _ _ _ _ _)
      | (with_reducible exact ih3 _ _ _ _)
      | (with_reducible exact gangwaylaw2_wakes.mono _)
      | (with_reducible exact gangwayref0_EqBytes.mono _ _ _)
      | (with_reducible exact utf_Bytes.mono _ _)
      | (with_reducible exact LeO.refl _)
      | (with_reducible exact LeO.none _)
      | (with_reducible refine LeO.ite ?_ ?_)
      | (with_reducible refine LeO.bind ?_ (fun _ => ?_))
      | exact ih0 _ _
      | exact ih1 _ _ _
      | exact ih2 _ _ _ _ _
      | exact ih3 _ _ _ _
      | exact gangwaylaw2_wakes.mono _
      | exact gangwayref0_EqBytes.mono _ _ _
      | exact utf_Bytes.mono _ _
      | exact LeO.none _
      | refine LeO.ite ?_ ?_
      | refine LeO.bind ?_ (fun _ => ?_)
    · intro y0 y1 y2 y3 y4
      unfold gangwaylaw2_UtfBytes.l1
      repeat' first
      | (with_reducible exact ih0 _ _)
      | (with_reducible exact ih1 _ _ _)
      | (with_reducible exact ih2 _ _ _ _ _)
      | (with_reducible exact ih3 _ _ _ _)
      | (with_reducible exact gangwaylaw2_wakes.mono _)
      | (with_reducible exact gangwayref0_EqBytes.mono _ _ _)
      | (with_reducible exact utf_Bytes.mono _ _)
      | (with_reducible exact LeO.refl _)
      | (with_reducible exact LeO.none _)
      | (with_reducible refine LeO.ite ?_ ?_)
      | (with_reducible refine LeO.bind ?_ (fun _ => ?_))
      | exact ih0 _ _
      | exact ih1 _ _ _
      | exact ih2 _ _ _ _ _
      | exact ih3 _ _ _ _
      | exact gangwaylaw2_wakes.mono _
      | exact gangwayref0_EqBytes.mono _ _ _
      | exact utf_Bytes.mono _ _
      | exact LeO.none _
      | refine LeO.ite ?_ ?_
      | refine LeO.bind ?_ (fun _ => ?_)
    · intro y0 y1 y2 y3
      unfold gangwaylaw2_UtfBytes.j3
      repeat' first
      | (with_reducible exact ih0 _ _)
      | (with_reducible exact ih1 _ _ _)
      | (with_reducible exact ih2 _ _ _ _ _)
      | (with_reducible exact ih3 _ _ _ _)
      | (with_reducible exact gangwaylaw2_wakes.mono _)
      | (with_reducible exact gangwayref0_EqBytes.mono _ _ _)
      | (with_reducible exact utf_Bytes.mono _ _)
      | (with_reducible exact LeO.refl _)
      | (with_reducible exact LeO.none _)
      | (with_reducible refine LeO.ite ?_ ?_)
      | (with_reducible refine LeO.bind ?_ (fun _ => ?_))
      | exact ih0 _ _
      | exact ih1 _ _ _
      | exact ih2 _ _ _ _ _
      | exact ih3 _ _ _ _
      | exact gangwaylaw2_wakes.mono _
      | exact gangwayref0_EqBytes.mono _ _ _
      | exact utf_Bytes.mono _ _
      | exact LeO.none _
      | refine LeO.ite ?_ ?_
      | refine LeO.bind ?_ (fun _ => ?_)
theorem gangwaylaw2_UtfBytes.mono : ∀ a0 k, LeO (gangwaylaw2_UtfBytes.f k a0) (gangwaylaw2_UtfBytes.f (k + 1) a0) := by
  intro a0 k
  obtain ⟨ih0, ih1, ih2, ih3⟩ := gangwaylaw2_UtfBytes.mono_l k
  unfold gangwaylaw2_UtfBytes.f
  repeat' first
      | (with_reducible exact ih0 _ _)
      | (with_reducible exact ih1 _ _ _)
      | (with_reducible exact ih2 _ _ _ _ _)
      | (with_reducible exact ih3 _ _ _ _)
      | (with_reducible exact gangwaylaw2_wakes.mono _)
      | (with_reducible exact gangwayref0_EqBytes.mono _ _ _)
      | (with_reducible exact utf_Bytes.mono _ _)
      | (with_reducible exact LeO.refl _)
      | (with_reducible exact LeO.none _)
      | (with_reducible refine LeO.ite ?_ ?_)
      | (with_reducible refine LeO.bind ?_ (fun _ => ?_))
      | exact ih0 _ _
      | exact ih1 _ _ _
      | exact ih2 _ _ _ _ _
      | exact ih3 _ _ _ _
      | exact gangwaylaw2_wakes.mono _
      | exact gangwayref0_EqBytes.mono _ _ _
      | exact utf_Bytes.mono _ _
      | exact LeO.none _
      | refine LeO.ite ?_ ?_
      | refine LeO.bind ?_ (fun _ => ?_)
set_option maxHeartbeats 8000000 in
set_option maxRecDepth 100000 in
theorem gangwaylaw2_UtfBytes.calls (k : Nat) (A0 : Option Addr) (c0 : Nat) (l0 : List (S27)) (r : Bool) (w : World) (hr0 : Kd.C k27 w A0 l0.length l0) (hc0 : l0.length ≤ c0) (h : gangwaylaw2_UtfBytes.f k l0 = some r) :
    Calls Try.prog 4 #[.slice A0 l0.length c0] w fun e w' => e = .returned (.bool r) ∧ Below w.heap.size w w' := by
  have hu27 := Try.underlying27
  have HR0 := Aside0.mk hr0
  have HC0 := Aside0.mk hc0
  clear hr0 hc0
  have HB := Aside0.mk (Below.refl w.heap.size w)
  have H : (gangwaylaw2_UtfBytes.l0 k l0 0) = some r := h
  clear h
  have H' := Aside0.mk H
  clear H
  go_enter Try.func4, Try.ntmps4
  go_wp2
  go_loopg [3] k (fun kq v3 w' => ∃ (x3_1 : Int), v3 = .int .i64 x3_1 ∧ Aside0 (gangwaylaw2_UtfBytes.l0 kq l0 x3_1 = some r) ∧ Aside0 (kq ≤ k) ∧ Aside0 (Below w.heap.size w w'))
  case atStart => exact ⟨(0), (by first | rfl | (simp; done) | (simp [*]; done)), H', ⟨Nat.le_refl _⟩, ⟨by repeat (first | (with_reducible first | exact HB.out | apply below_alloc | apply pw_below_drewN | apply below_drew1) | exact HB.out)⟩⟩
  case round =>
    clear H'
    obtain ⟨x3_1, rfl, HA, HK1, HB⟩ := hrel
    cases gk with
    | zero => exact absurd HA.out (by simp [gangwaylaw2_UtfBytes.l0])
    | succ k1 =>
      have H := HA.out
      clear HA
      simp only [gangwaylaw2_UtfBytes.l0] at H
      have HC2 := Aside0.mk H
      clear H
      go_upto_region 2 with (fail)
      go_cut [16] (fun v16 wc => ∃ (kq : Nat) (x16_1 : Bool), v16 = .bool x16_1 ∧ Aside0 (gangwaylaw2_UtfBytes.j1 kq l0 x3_1 x16_1 = some r) ∧ Aside0 (kq ≤ k1) ∧ Aside0 (Below w.heap.size w wc))
      case first =>
        have H := HC2.out
        clear HC2
        by_cases c3 : x3_1 < (l0.length : Int)
        · rw [if_pos c3] at H
          have c3b0 : decide (x3_1 < (l0.length : Int)) = true := decide_eq_true c3
          clear c3
          (first | rw [c3b0] | (simp only [i64_w, i32_w]; rw [c3b0]) | skip)
          have H' := Aside0.mk H
          clear H
          go_wp2
          go_meet
          case rel => exact ⟨_, (decide (x3_1 < 20)), (by first | rfl | (simp; done) | (simp [*]; done)), H', ⟨by have := HK1.out; first | omega | exact Nat.le_refl _⟩, ⟨by repeat (first | (with_reducible first | exact HB.out | apply below_alloc | apply pw_below_drewN | apply below_drew1) | exact HB.out)⟩⟩
        · rw [if_neg c3] at H
          have c3b0 : decide (x3_1 < (l0.length : Int)) = false := decide_eq_false c3
          clear c3
          (first | rw [c3b0] | (simp only [i64_w, i32_w]; rw [c3b0]) | skip)
          have H' := Aside0.mk H
          clear H
          go_wp2
          go_meet
          case rel => exact ⟨_, (false), (by first | rfl | (simp; done) | (simp [*]; done)), H', ⟨by have := HK1.out; first | omega | exact Nat.le_refl _⟩, ⟨by repeat (first | (with_reducible first | exact HB.out | apply below_alloc | apply pw_below_drewN | apply below_drew1) | exact HB.out)⟩⟩
      case rest =>
        clear HC2
        try clear p2
        try clear c3
        try clear c3b0
        obtain ⟨kq, x16_1, rfl, HA, HJ1, HB⟩ := hcut
        cases kq with
        | zero => exact absurd HA.out (by simp [gangwaylaw2_UtfBytes.j1])
        | succ kj1 =>
          have H := HA.out
          clear HA
          simp only [gangwaylaw2_UtfBytes.j1] at H
          by_cases c4 : x16_1 = true
          · subst c4
            have H1 : (if 0 ≤ x3_1 then (if x3_1 < (l0.length : Int) then ((gangwaylaw2_heavy.f ((rd_T27 l0 x3_1).f0) ((rd_T27 l0 x3_1).f1)).bind fun t253 => (if t253 = true then (some true) else (gangwaylaw2_UtfBytes.l1 kj1 l0 x3_1 0 ([] : List Int) 0))) else (none)) else (none)) = some r := by rw [if_pos rfl] at H; exact H
            clear H
            have H := H1
            clear H1
            by_cases c5 : 0 ≤ x3_1
            · rw [if_pos c5] at H
              have c5b0 : decide (0 ≤ x3_1) = true := decide_eq_true c5
              clear c5
              by_cases c6 : x3_1 < (l0.length : Int)
              · rw [if_pos c6] at H
                have c6b0 : decide (x3_1 < (l0.length : Int)) = true := decide_eq_true c6
                clear c6
                replace H := Option.bind_eq_some_iff.mp H
                obtain ⟨t253, A70, H⟩ := H
                replace H : (if t253 = true then (some true) else (gangwaylaw2_UtfBytes.l1 kj1 l0 x3_1 0 ([] : List Int) 0)) = some r := H
                have A7 := Aside0.mk A70
                clear A70
                by_cases c8 : t253 = true
                · subst c8
                  have H1 : (some true) = some r := by rw [if_pos rfl] at H; exact H
                  clear H
                  have H := H1
                  clear H1
                  obtain rfl := Option.some.inj H
                  have p252 : 0 ≤ (x3_1 : Int) := of_decide_eq_true (by first | (with_reducible assumption) | assumption)
                  have q252 : x3_1 < (l0.length : Int) := of_decide_eq_true (by first | (with_reducible assumption) | assumption)
                  obtain ⟨ad252, A252_0, c252_0, A252_1, c252_1, e252, hx252_0, hx252_1, hl252_0, hi252_0, hl252_1, hi252_1⟩ := at_T27 HR0.out x3_1 p252 q252
                  cases e252
                  replace hx252_0 := (HB.out.cell (World.block_lt_of_cell? w _ hx252_0)).trans hx252_0
                  replace hx252_1 := (HB.out.cell (World.block_lt_of_cell? w _ hx252_1)).trans hx252_1
                  have HR252_0 := Aside0.mk hi252_0
                  have HC252_0 := Aside0.mk hl252_0
                  clear hi252_0 hl252_0
                  have HR252_1 := Aside0.mk hi252_1
                  have HC252_1 := Aside0.mk hl252_1
                  clear hi252_1 hl252_1
                  replace p252 := eq_true p252
                  replace q252 := eq_true q252
                  go_wp2_with (first | ((with_reducible refine gate_callee (f := 7) rfl ?_); refine goesL_ (some 23) rfl rfl Try.func7 (by kernel_rfl) rfl #[.agg #[.slice A252_0 ((rd_T27 l0 x3_1).f0).length c252_0, .slice A252_1 ((rd_T27 l0 x3_1).f1).length c252_1]] rfl (by (try simp only [List.map_toArray, List.map_cons, List.map_nil]); first | done | rfl | (simp only [List.length_drop, List.length_take]; rfl)) ?_; (with_reducible refine (gangwaylaw2_heavy.calls _ _ ((rd_T27 l0 x3_1).f0) _ _ ((rd_T27 l0 x3_1).f1) true _ ?side1 ?side2 ?side3 ?side4 A7.out).mono ?_); (case side1 => repeat (first | exact (Kd.C_below HR252_0.out HB.out) | (with_reducible refine Kd.C_alloc ?_ _) | (with_reducible refine Kd.C_drewN ?_ _) | (with_reducible refine Kd.C_drew ?_))); (case side2 => exact HC252_0.out); (case side3 => repeat (first | exact (Kd.C_below HR252_1.out HB.out) | (with_reducible refine Kd.C_alloc ?_ _) | (with_reducible refine Kd.C_drewN ?_ _) | (with_reducible refine Kd.C_drew ?_))); (case side4 => exact HC252_1.out); rintro e w9 ⟨rfl, hb⟩; refine ⟨_, rfl, ?_⟩; have n0_ := Aside0.mk (below_step (by repeat (first | (with_reducible first | exact HB.out | apply below_alloc | apply pw_below_drewN | apply below_drew1) | exact HB.out)) hb); clear HB; have HB := n0_; clear n0_; (try clear hb); (try clear hb2); (try clear hk); (try clear hi)))
                  go_ret
                  exact ⟨by first | rfl | (simp [errW_none, errW_some] <;> rfl) | (simp [*, errW_none, errW_some] <;> rfl), by repeat (first | (with_reducible first | exact HB.out | apply below_alloc | apply pw_below_drewN | apply below_drew1) | exact HB.out)⟩
                · replace c8 := Bool.eq_false_iff.mpr c8
                  subst c8
                  have H1 : (gangwaylaw2_UtfBytes.l1 kj1 l0 x3_1 0 ([] : List Int) 0) = some r := by rw [if_neg (show ¬ (false = true) by decide)] at H; exact H
                  clear H
                  have H := H1
                  clear H1
                  have H' := Aside0.mk H
                  clear H
                  have p252 : 0 ≤ (x3_1 : Int) := of_decide_eq_true (by first | (with_reducible assumption) | assumption)
                  have q252 : x3_1 < (l0.length : Int) := of_decide_eq_true (by first | (with_reducible assumption) | assumption)
                  obtain ⟨ad252, A252_0, c252_0, A252_1, c252_1, e252, hx252_0, hx252_1, hl252_0, hi252_0, hl252_1, hi252_1⟩ := at_T27 HR0.out x3_1 p252 q252
                  cases e252
                  replace hx252_0 := (HB.out.cell (World.block_lt_of_cell? w _ hx252_0)).trans hx252_0
                  replace hx252_1 := (HB.out.cell (World.block_lt_of_cell? w _ hx252_1)).trans hx252_1
                  have HR252_0 := Aside0.mk hi252_0
                  have HC252_0 := Aside0.mk hl252_0
                  clear hi252_0 hl252_0
                  have HR252_1 := Aside0.mk hi252_1
                  have HC252_1 := Aside0.mk hl252_1
                  clear hi252_1 hl252_1
                  replace p252 := eq_true p252
                  replace q252 := eq_true q252
                  go_wp2_with (first | ((with_reducible refine gate_callee (f := 7) rfl ?_); refine goesL_ (some 23) rfl rfl Try.func7 (by kernel_rfl) rfl #[.agg #[.slice A252_0 ((rd_T27 l0 x3_1).f0).length c252_0, .slice A252_1 ((rd_T27 l0 x3_1).f1).length c252_1]] rfl (by (try simp only [List.map_toArray, List.map_cons, List.map_nil]); first | done | rfl | (simp only [List.length_drop, List.length_take]; rfl)) ?_; (with_reducible refine (gangwaylaw2_heavy.calls _ _ ((rd_T27 l0 x3_1).f0) _ _ ((rd_T27 l0 x3_1).f1) false _ ?side1 ?side2 ?side3 ?side4 A7.out).mono ?_); (case side1 => repeat (first | exact (Kd.C_below HR252_0.out HB.out) | (with_reducible refine Kd.C_alloc ?_ _) | (with_reducible refine Kd.C_drewN ?_ _) | (with_reducible refine Kd.C_drew ?_))); (case side2 => exact HC252_0.out); (case side3 => repeat (first | exact (Kd.C_below HR252_1.out HB.out) | (with_reducible refine Kd.C_alloc ?_ _) | (with_reducible refine Kd.C_drewN ?_ _) | (with_reducible refine Kd.C_drew ?_))); (case side4 => exact HC252_1.out); rintro e w10 ⟨rfl, hb⟩; refine ⟨_, rfl, ?_⟩; have n0_ := Aside0.mk (below_step (by repeat (first | (with_reducible first | exact HB.out | apply below_alloc | apply pw_below_drewN | apply below_drew1) | exact HB.out)) hb); clear HB; have HB := n0_; clear n0_; (try clear hb); (try clear hb2); (try clear hk); (try clear hi)))
                  go_loopg [4, 5, 6] kj1 (fun kq v4 v5 v6 w' => ∃ (x4_3 : Int) (x5_3 : List Int) (x6_3 : Int), v4 = .int .i64 x4_3 ∧ v6 = .int .i64 x6_3 ∧ Aside0 (gangwaylaw2_UtfBytes.l1 kq l0 x3_1 x4_3 x5_3 x6_3 = some r) ∧ Aside0 (kq ≤ kj1) ∧ Aside0 (Kd.R (Kd.int .u8) 5 w' w.heap.size (fun _ => True) v5 x5_3) ∧ Aside0 (Below w.heap.size w w'))
                  case atStart => exact ⟨(0), (([] : List Int)), (0), (by first | rfl | (simp; done) | (simp [*]; done)), (by first | rfl | (simp; done) | (simp [*]; done)), H', ⟨Nat.le_refl _⟩, ⟨by first | exact Kd.R_nil _ _ _ _ _ | exact Kd.N_nil _ _ _ _ _ | exact Kd.V_nil _ _ _ _ _ | exact Kd.Q_nil _ _ _ _ _ | exact Kd.S_nil _ _ _ _ _⟩, ⟨by repeat (first | (with_reducible first | exact HB.out | apply below_alloc | apply pw_below_drewN | apply below_drew1) | exact HB.out)⟩⟩
                  case round =>
                    clear H'
                    try clear c2
                    try clear p2
                    try clear q2
                    try clear hx2
                    try clear c3
                    try clear c3b0
                    try clear c4
                    try clear c5
                    try clear c5b0
                    try clear c6
                    try clear c6b0
                    try clear c7
                    try clear c8
                    try clear hx252_0
                    try clear hx252_1
                    try clear p2
                    try clear p252
                    try clear q252
                    obtain ⟨x4_3, x5_3, x6_3, rfl, rfl, HA, HK3, HO_5, HB⟩ := hrel
                    cases gk with
                    | zero => exact absurd HA.out (by simp [gangwaylaw2_UtfBytes.l1])
                    | succ k3 =>
                      have H := HA.out
                      clear HA
                      simp only [gangwaylaw2_UtfBytes.l1] at H
                      by_cases c11 : 0 ≤ x3_1
                      · rw [if_pos c11] at H
                        have c11b0 : decide (0 ≤ x3_1) = true := decide_eq_true c11
                        clear c11
                        by_cases c12 : x3_1 < (l0.length : Int)
                        · rw [if_pos c12] at H
                          have c12b0 : decide (x3_1 < (l0.length : Int)) = true := decide_eq_true c12
                          clear c12
                          by_cases c13 : x6_3 < (((rd_T27 l0 x3_1).f1).length : Int)
                          · rw [if_pos c13] at H
                            have c13b0 : decide (x6_3 < (((rd_T27 l0 x3_1).f1).length : Int)) = true := decide_eq_true c13
                            clear c13
                            by_cases c14 : 0 ≤ x6_3
                            · rw [if_pos c14] at H
                              have c14b0 : decide (0 ≤ x6_3) = true := decide_eq_true c14
                              clear c14
                              replace H := Option.bind_eq_some_iff.mp H
                              obtain ⟨t257, A150, H⟩ := H
                              replace H : (if t257 = true then ((gangwayref1_Put.f (rd ((rd_T27 l0 x3_1).f1) x6_3)).bind fun t260 => (if x5_3.length + t260.length < 140737488355328 then (gangwaylaw2_UtfBytes.l1 k3 l0 x3_1 x4_3 (x5_3 ++ t260) (wrap64 (x6_3 + 1))) else (none))) else (gangwaylaw2_UtfBytes.l1 k3 l0 x3_1 100 x5_3 (wrap64 (x6_3 + 1)))) = some r := H
                              have A15 := Aside0.mk A150
                              clear A150
                              by_cases c16 : t257 = true
                              · subst c16
                                have H1 : ((gangwayref1_Put.f (rd ((rd_T27 l0 x3_1).f1) x6_3)).bind fun t260 => (if x5_3.length + t260.length < 140737488355328 then (gangwaylaw2_UtfBytes.l1 k3 l0 x3_1 x4_3 (x5_3 ++ t260) (wrap64 (x6_3 + 1))) else (none))) = some r := by rw [if_pos rfl] at H; exact H
                                clear H
                                have H := H1
                                clear H1
                                replace H := Option.bind_eq_some_iff.mp H
                                obtain ⟨t260, A170, H⟩ := H
                                replace H : (if x5_3.length + t260.length < 140737488355328 then (gangwaylaw2_UtfBytes.l1 k3 l0 x3_1 x4_3 (x5_3 ++ t260) (wrap64 (x6_3 + 1))) else (none)) = some r := H
                                have A17 := Aside0.mk A170
                                clear A170
                                by_cases c18 : x5_3.length + t260.length < 140737488355328
                                · rw [if_pos c18] at H
                                  have LMc18 := Aside0.mk c18
                                  clear c18
                                  obtain ⟨y263, hy263⟩ : ∃ y_ : List Int, y_ = (x5_3 ++ t260) := ⟨_, rfl⟩
                                  replace H : (gangwaylaw2_UtfBytes.l1 k3 l0 x3_1 x4_3 y263 (wrap64 (x6_3 + 1))) = some r := by first | (rw [hy263]; with_reducible exact H) | (have H2_ := (Option.bind_some _ _).symm.trans H; rw [hy263]; with_reducible exact H2_) | (have H2_ := (Option.bind_some _ _).symm.trans H; with_reducible exact H2_) | with_reducible exact H | (rw [hy263]; exact H) | exact H
                                  have Ny263 := Aside0.mk hy263
                                  clear hy263
                                  have H' := Aside0.mk H
                                  clear H
                                  have p254 : 0 ≤ (x3_1 : Int) := of_decide_eq_true (by first | (with_reducible assumption) | assumption)
                                  have q254 : x3_1 < (l0.length : Int) := of_decide_eq_true (by first | (with_reducible assumption) | assumption)
                                  obtain ⟨ad254, A254_0, c254_0, A254_1, c254_1, e254, hx254_0, hx254_1, hl254_0, hi254_0, hl254_1, hi254_1⟩ := at_T27 HR0.out x3_1 p254 q254
                                  obtain rfl : ad252 = ad254 := (by injection e254)
                                  replace hx254_0 := (HB.out.cell (World.block_lt_of_cell? w _ hx254_0)).trans hx254_0
                                  replace hx254_1 := (HB.out.cell (World.block_lt_of_cell? w _ hx254_1)).trans hx254_1
                                  have HR254_0 := Aside0.mk hi254_0
                                  have HC254_0 := Aside0.mk hl254_0
                                  clear hi254_0 hl254_0
                                  have HR254_1 := Aside0.mk hi254_1
                                  have HC254_1 := Aside0.mk hl254_1
                                  clear hi254_1 hl254_1
                                  replace p254 := eq_true p254
                                  replace q254 := eq_true q254
                                  have p255 : 0 ≤ (x3_1 : Int) := of_decide_eq_true (by first | (with_reducible assumption) | assumption)
                                  have q255 : x3_1 < (l0.length : Int) := of_decide_eq_true (by first | (with_reducible assumption) | assumption)
                                  obtain ⟨ad255, A255_0, c255_0, A255_1, c255_1, e255, hx255_0, hx255_1, hl255_0, hi255_0, hl255_1, hi255_1⟩ := at_T27 HR0.out x3_1 p255 q255
                                  obtain rfl : ad252 = ad255 := (by injection e255)
                                  replace hx255_0 := (HB.out.cell (World.block_lt_of_cell? w _ hx255_0)).trans hx255_0
                                  replace hx255_1 := (HB.out.cell (World.block_lt_of_cell? w _ hx255_1)).trans hx255_1
                                  have HR255_0 := Aside0.mk hi255_0
                                  have HC255_0 := Aside0.mk hl255_0
                                  clear hi255_0 hl255_0
                                  have HR255_1 := Aside0.mk hi255_1
                                  have HC255_1 := Aside0.mk hl255_1
                                  clear hi255_1 hl255_1
                                  replace p255 := eq_true p255
                                  replace q255 := eq_true q255
                                  have ea_ := Option.some.inj (hx254_0.symm.trans hx255_0)
                                  injection ea_ with ea_ en_ ec_
                                  subst ea_
                                  subst ec_
                                  clear en_
                                  have ea_ := Option.some.inj (hx254_1.symm.trans hx255_1)
                                  injection ea_ with ea_ en_ ec_
                                  subst ea_
                                  subst ec_
                                  clear en_
                                  have p256 : 0 ≤ (x6_3 : Int) := of_decide_eq_true (by first | (with_reducible assumption) | assumption)
                                  have q256 : x6_3 < (((rd_T27 l0 x3_1).f1).length : Int) := of_decide_eq_true (by first | (with_reducible assumption) | assumption)
                                  obtain ⟨ad256, e256, hx256_0⟩ := Kd.at_int HR255_1.out x6_3 p256 q256
                                  cases e256
                                  replace hx256_0 := (HB.out.cell (World.block_lt_of_cell? w _ hx256_0)).trans hx256_0
                                  replace p256 := eq_true p256
                                  replace q256 := eq_true q256
                                  go_wp2_with (first | ((with_reducible refine gate_callee (f := 17) rfl ?_); refine goesL_ (some 42) rfl rfl Try.func17 (by kernel_rfl) rfl #[.int .i32 (rd ((rd_T27 l0 x3_1).f1) x6_3)] rfl (by (try simp only [List.map_toArray, List.map_cons, List.map_nil]); first | done | rfl | (simp only [List.length_drop, List.length_take]; rfl)) ?_; (with_reducible refine (gangwayref1_Point.calls (rd ((rd_T27 l0 x3_1).f1) x6_3) true _ A15.out).mono ?_); rintro e w' ⟨rfl, ⟨nd, rfl⟩⟩; refine ⟨_, rfl, ?_⟩; have p258 : 0 ≤ (x3_1 : Int) := of_decide_eq_true (by first | (with_reducible assumption) | assumption); have q258 : x3_1 < (l0.length : Int) := of_decide_eq_true (by first | (with_reducible assumption) | assumption); obtain ⟨ad258, A258_0, c258_0, A258_1, c258_1, e258, hx258_0, hx258_1, hl258_0, hi258_0, hl258_1, hi258_1⟩ := at_T27 HR0.out x3_1 p258 q258; obtain rfl : ad252 = ad258 := (by injection e258); replace hx258_0 := (HB.out.cell (World.block_lt_of_cell? w _ hx258_0)).trans hx258_0; replace hx258_1 := (HB.out.cell (World.block_lt_of_cell? w _ hx258_1)).trans hx258_1; have HR258_0 := Aside0.mk hi258_0; have HC258_0 := Aside0.mk hl258_0; clear hi258_0 hl258_0; have HR258_1 := Aside0.mk hi258_1; have HC258_1 := Aside0.mk hl258_1; clear hi258_1 hl258_1; replace p258 := eq_true p258; replace q258 := eq_true q258; have ea_ := Option.some.inj (hx254_0.symm.trans hx258_0); injection ea_ with ea_ en_ ec_; subst ea_; subst ec_; clear en_; have ea_ := Option.some.inj (hx254_1.symm.trans hx258_1); injection ea_ with ea_ en_ ec_; subst ea_; subst ec_; clear en_; have p259 : 0 ≤ (x6_3 : Int) := of_decide_eq_true (by first | (with_reducible assumption) | assumption); have q259 : x6_3 < (((rd_T27 l0 x3_1).f1).length : Int) := of_decide_eq_true (by first | (with_reducible assumption) | assumption); obtain ⟨ad259, e259, hx259_0⟩ := Kd.at_int HR258_1.out x6_3 p259 q259; cases e259; replace hx259_0 := (HB.out.cell (World.block_lt_of_cell? w _ hx259_0)).trans hx259_0; replace p259 := eq_true p259; replace q259 := eq_true q259) | ((with_reducible refine gate_callee (f := 18) rfl ?_); refine goesL_ (some 53) rfl rfl Try.func18 (by kernel_rfl) rfl #[.int .i32 (rd ((rd_T27 l0 x3_1).f1) x6_3)] rfl (by (try simp only [List.map_toArray, List.map_cons, List.map_nil]); first | done | rfl | (simp only [List.length_drop, List.length_take]; rfl)) ?_; (with_reducible refine (gangwayref1_Put.calls (rd ((rd_T27 l0 x3_1).f1) x6_3) t260 _ A17.out).mono ?_); rintro e w19 ⟨v261, rfl, ho0, hb⟩; refine ⟨_, rfl, ?_⟩; have n0_ := Aside0.mk (Kd.R_elder' (by (with_reducible repeat (first | apply Kd.R_alloc | apply Kd.R_drewN | apply Kd.R_drew)); exact HO_5.out) (Kd.R_base ho0) hb); have n1_ := Aside0.mk (Kd.R_lower (Kd.R_new' ho0 (Kd.R_lt (by (with_reducible repeat (first | apply Kd.R_alloc | apply Kd.R_drewN | apply Kd.R_drew)); exact HO_5.out))) (below_size (by repeat (first | (with_reducible first | exact HB.out | apply below_alloc | apply pw_below_drewN | apply below_drew1) | exact HB.out)))); have n2_ := Aside0.mk (below_step (by repeat (first | (with_reducible first | exact HB.out | apply below_alloc | apply pw_below_drewN | apply below_drew1) | exact HB.out)) hb); clear HO_5; clear HB; have HO_5 := n0_; have HO262 := n1_; have HB := n2_; clear n0_ n1_ n2_; (try clear hb); (try clear hb2); (try clear hk); (try clear hi); (try clear ho0); obtain ⟨Ao21, co21, eo21⟩ := Kd.R_slice HO262.out; subst eo21) | ((with_reducible refine gate_builtin (b := .append) (xs := #[.tmp 44, .tmp 53]) rfl ?_); at_builtin; refine Kd.R_append_rows (Kd.int .u8) (w0 := w) w.heap.size rfl (.tmp 44) (.tmp 53) 24 5 (.int .u8 0) 1 rfl Try.underlying24 info5 rfl (by decide) (by omega) u5 x5_3 t260 _ _ _ (fun k_ => some k_ ≠ (.slice Ao21 t260.length co21 : Value).ownBlock) (fun _ => False) rfl rfl ?aO ?aR (fun _ _ h => h) (fun _ h => h.elim) ?aF ?aB ?aS ?aL ?_; (case aR => repeat (first | exact (Kd.R_reads' HO262.out).2.2 | (with_reducible refine Kd.C_alloc ?_ _) | (with_reducible refine Kd.C_drewN ?_ _) | (with_reducible refine Kd.C_drew ?_))); (case aB => exact (by repeat (first | (with_reducible first | exact HB.out | apply below_alloc | apply pw_below_drewN | apply below_drew1) | exact HB.out))); (case aF => exact (fun k_ hk => Kd.fresh' (Kd.R_lt (by (with_reducible repeat (first | apply Kd.R_alloc | apply Kd.R_drewN | apply Kd.R_drew)); exact HO262.out)) k_ hk)); (case aO => exact (by (with_reducible repeat (first | apply Kd.R_alloc | apply Kd.R_drewN | apply Kd.R_drew)); exact Kd.R_mono HO_5.out (fun _ hk => hk.2))); (case aS => exact (below_size (by repeat (first | (with_reducible first | exact HB.out | apply below_alloc | apply pw_below_drewN | apply below_drew1) | exact HB.out)))); (case aL => have := LMc18.out; omega); intro v264 w20 ho hb hg hat; rw [← Ny263.out] at ho; have n0_ := Aside0.mk (Kd.R_after (ok := (fun _ => True)) (by (with_reducible repeat (first | apply Kd.R_alloc | apply Kd.R_drewN | apply Kd.R_drew)); exact HO262.out) hg hat); have n1_ := Aside0.mk (hb); have n2_ := Aside0.mk (ho); clear HO262; clear HB; clear HO_5; have HO262 := n0_; have HB := n1_; have HO265 := n2_; clear n0_ n1_ n2_; clear ho hb hg hat))
                                  go_roundg k3
                                  case measure => have := HK1.out; have := HJ1.out; have := HK3.out; omega
                                  case rel => exact ⟨(x4_3), (y263), (wrap64 (x6_3 + 1)), (by first | rfl | (simp; done) | (simp [*]; done)), (by first | rfl | (simp; done) | (simp [*]; done)), H', ⟨by have := HK1.out; have := HJ1.out; have := HK3.out; omega⟩, ⟨by (with_reducible repeat (first | apply Kd.R_alloc | apply Kd.R_drewN | apply Kd.R_drew)); exact Kd.R_mono HO265.out (fun _ hk => trivial)⟩, ⟨by repeat (first | (with_reducible first | exact HB.out | apply below_alloc | apply pw_below_drewN | apply below_drew1) | exact HB.out)⟩⟩
                                · rw [if_neg c18] at H
                                  exact absurd H (by simp)
                              · replace c16 := Bool.eq_false_iff.mpr c16
                                subst c16
                                have H1 : (gangwaylaw2_UtfBytes.l1 k3 l0 x3_1 100 x5_3 (wrap64 (x6_3 + 1))) = some r := by rw [if_neg (show ¬ (false = true) by decide)] at H; exact H
                                clear H
                                have H := H1
                                clear H1
                                have H' := Aside0.mk H
                                clear H
                                have p254 : 0 ≤ (x3_1 : Int) := of_decide_eq_true (by first | (with_reducible assumption) | assumption)
                                have q254 : x3_1 < (l0.length : Int) := of_decide_eq_true (by first | (with_reducible assumption) | assumption)
                                obtain ⟨ad254, A254_0, c254_0, A254_1, c254_1, e254, hx254_0, hx254_1, hl254_0, hi254_0, hl254_1, hi254_1⟩ := at_T27 HR0.out x3_1 p254 q254
                                obtain rfl : ad252 = ad254 := (by injection e254)
                                replace hx254_0 := (HB.out.cell (World.block_lt_of_cell? w _ hx254_0)).trans hx254_0
                                replace hx254_1 := (HB.out.cell (World.block_lt_of_cell? w _ hx254_1)).trans hx254_1
                                have HR254_0 := Aside0.mk hi254_0
                                have HC254_0 := Aside0.mk hl254_0
                                clear hi254_0 hl254_0
                                have HR254_1 := Aside0.mk hi254_1
                                have HC254_1 := Aside0.mk hl254_1
                                clear hi254_1 hl254_1
                                replace p254 := eq_true p254
                                replace q254 := eq_true q254
                                have p255 : 0 ≤ (x3_1 : Int) := of_decide_eq_true (by first | (with_reducible assumption) | assumption)
                                have q255 : x3_1 < (l0.length : Int) := of_decide_eq_true (by first | (with_reducible assumption) | assumption)
                                obtain ⟨ad255, A255_0, c255_0, A255_1, c255_1, e255, hx255_0, hx255_1, hl255_0, hi255_0, hl255_1, hi255_1⟩ := at_T27 HR0.out x3_1 p255 q255
                                obtain rfl : ad252 = ad255 := (by injection e255)
                                replace hx255_0 := (HB.out.cell (World.block_lt_of_cell? w _ hx255_0)).trans hx255_0
                                replace hx255_1 := (HB.out.cell (World.block_lt_of_cell? w _ hx255_1)).trans hx255_1
                                have HR255_0 := Aside0.mk hi255_0
                                have HC255_0 := Aside0.mk hl255_0
                                clear hi255_0 hl255_0
                                have HR255_1 := Aside0.mk hi255_1
                                have HC255_1 := Aside0.mk hl255_1
                                clear hi255_1 hl255_1
                                replace p255 := eq_true p255
                                replace q255 := eq_true q255
                                have ea_ := Option.some.inj (hx254_0.symm.trans hx255_0)
                                injection ea_ with ea_ en_ ec_
                                subst ea_
                                subst ec_
                                clear en_
                                have ea_ := Option.some.inj (hx254_1.symm.trans hx255_1)
                                injection ea_ with ea_ en_ ec_
                                subst ea_
                                subst ec_
                                clear en_
                                have p256 : 0 ≤ (x6_3 : Int) := of_decide_eq_true (by first | (with_reducible assumption) | assumption)
                                have q256 : x6_3 < (((rd_T27 l0 x3_1).f1).length : Int) := of_decide_eq_true (by first | (with_reducible assumption) | assumption)
                                obtain ⟨ad256, e256, hx256_0⟩ := Kd.at_int HR255_1.out x6_3 p256 q256
                                cases e256
                                replace hx256_0 := (HB.out.cell (World.block_lt_of_cell? w _ hx256_0)).trans hx256_0
                                replace p256 := eq_true p256
                                replace q256 := eq_true q256
                                go_wp2_with (first | ((with_reducible refine gate_callee (f := 17) rfl ?_); refine goesL_ (some 42) rfl rfl Try.func17 (by kernel_rfl) rfl #[.int .i32 (rd ((rd_T27 l0 x3_1).f1) x6_3)] rfl (by (try simp only [List.map_toArray, List.map_cons, List.map_nil]); first | done | rfl | (simp only [List.length_drop, List.length_take]; rfl)) ?_; (with_reducible refine (gangwayref1_Point.calls (rd ((rd_T27 l0 x3_1).f1) x6_3) false _ A15.out).mono ?_); rintro e w' ⟨rfl, ⟨nd, rfl⟩⟩; refine ⟨_, rfl, ?_⟩))
                                go_roundg k3
                                case measure => have := HK1.out; have := HJ1.out; have := HK3.out; omega
                                case rel => exact ⟨(100), (x5_3), (wrap64 (x6_3 + 1)), (by first | rfl | (simp; done) | (simp [*]; done)), (by first | rfl | (simp; done) | (simp [*]; done)), H', ⟨by have := HK1.out; have := HJ1.out; have := HK3.out; omega⟩, ⟨by (with_reducible repeat (first | apply Kd.R_alloc | apply Kd.R_drewN | apply Kd.R_drew)); exact HO_5.out⟩, ⟨by repeat (first | (with_reducible first | exact HB.out | apply below_alloc | apply pw_below_drewN | apply below_drew1) | exact HB.out)⟩⟩
                            · rw [if_neg c14] at H
                              exact absurd H (by simp)
                          · rw [if_neg c13] at H
                            have c13b0 : decide (x6_3 < (((rd_T27 l0 x3_1).f1).length : Int)) = false := decide_eq_false c13
                            clear c13
                            have HC22 := Aside0.mk H
                            clear H
                            have p254 : 0 ≤ (x3_1 : Int) := of_decide_eq_true (by first | (with_reducible assumption) | assumption)
                            have q254 : x3_1 < (l0.length : Int) := of_decide_eq_true (by first | (with_reducible assumption) | assumption)
                            obtain ⟨ad254, A254_0, c254_0, A254_1, c254_1, e254, hx254_0, hx254_1, hl254_0, hi254_0, hl254_1, hi254_1⟩ := at_T27 HR0.out x3_1 p254 q254
                            obtain rfl : ad252 = ad254 := (by injection e254)
                            replace hx254_0 := (HB.out.cell (World.block_lt_of_cell? w _ hx254_0)).trans hx254_0
                            replace hx254_1 := (HB.out.cell (World.block_lt_of_cell? w _ hx254_1)).trans hx254_1
                            have HR254_0 := Aside0.mk hi254_0
                            have HC254_0 := Aside0.mk hl254_0
                            clear hi254_0 hl254_0
                            have HR254_1 := Aside0.mk hi254_1
                            have HC254_1 := Aside0.mk hl254_1
                            clear hi254_1 hl254_1
                            replace p254 := eq_true p254
                            replace q254 := eq_true q254
                            go_upto_if 56 with (fail)
                            go_cut [5] (fun v5 wc => ∃ (kq : Nat) (x5_21 : List Int), Aside0 (gangwaylaw2_UtfBytes.j3 kq l0 x3_1 x4_3 x5_21 = some r) ∧ Aside0 (kq ≤ k3) ∧ Aside0 (Kd.R (Kd.int .u8) 5 wc w.heap.size (fun _ => True) v5 x5_21) ∧ Aside0 (Below w.heap.size w wc))
                            case first =>
                              have H := HC22.out
                              clear HC22
                              by_cases c23 : x4_3 = 0
                              · rw [if_pos c23] at H
                                have c23b0 : (x4_3 == 0) = true := beq_iff_eq.mpr c23
                                have c23b1 : (x4_3 != 0) = false := bne_eq_false_iff_eq.mpr c23
                                clear c23
                                (first | rw [c23b0] | (simp only [i64_w, i32_w]; rw [c23b0]) | skip)
                                have H' := Aside0.mk H
                                clear H
                                go_wp2
                                go_meet
                                case rel => exact ⟨_, (x5_3), H', ⟨by have := HK1.out; have := HJ1.out; have := HK3.out; first | omega | exact Nat.le_refl _⟩, ⟨by (with_reducible repeat (first | apply Kd.R_alloc | apply Kd.R_drewN | apply Kd.R_drew)); exact HO_5.out⟩, ⟨by repeat (first | (with_reducible first | exact HB.out | apply below_alloc | apply pw_below_drewN | apply below_drew1) | exact HB.out)⟩⟩
                              · rw [if_neg c23] at H
                                have c23b0 : (x4_3 == 0) = false := beq_eq_false_iff_ne.mpr c23
                                have c23b1 : (x4_3 != 0) = true := bne_iff_ne.mpr c23
                                (first | rw [c23b0] | (simp only [i64_w, i32_w]; rw [c23b0]) | skip)
                                have H' := Aside0.mk H
                                clear H
                                go_wp2
                                go_meet
                                case rel => exact ⟨_, (([] : List Int)), H', ⟨by have := HK1.out; have := HJ1.out; have := HK3.out; first | omega | exact Nat.le_refl _⟩, ⟨by first | exact Kd.R_nil _ _ _ _ _ | exact Kd.N_nil _ _ _ _ _ | exact Kd.V_nil _ _ _ _ _ | exact Kd.Q_nil _ _ _ _ _ | exact Kd.S_nil _ _ _ _ _⟩, ⟨by repeat (first | (with_reducible first | exact HB.out | apply below_alloc | apply pw_below_drewN | apply below_drew1) | exact HB.out)⟩⟩
                            case rest =>
                              clear HC22
                              try clear c1
                              try clear c2
                              try clear p2
                              try clear q2
                              try clear hx2
                              try clear c3
                              try clear c3b0
                              try clear c4
                              try clear c5
                              try clear c5b0
                              try clear c6
                              try clear c6b0
                              try clear p6
                              try clear c7
                              try clear c8
                              try clear c11
                              try clear c11b0
                              try clear c12
                              try clear c12b0
                              try clear c13
                              try clear c13b0
                              try clear c14
                              try clear c14b0
                              try clear c16
                              try clear c17
                              try clear c18
                              try clear c23
                              try clear c23b0
                              try clear c23b1
                              try clear hx252_0
                              try clear hx252_1
                              try clear hx254_0
                              try clear hx254_1
                              try clear hx255_0
                              try clear hx255_1
                              try clear hx256_0
                              try clear hx258_0
                              try clear hx258_1
                              try clear hx259_0
                              try clear p2
                              try clear p252
                              try clear p254
                              try clear p255
                              try clear p256
                              try clear p258
                              try clear p259
                              try clear q2
                              try clear q252
                              try clear q254
                              try clear q255
                              try clear q256
                              try clear q258
                              try clear q259
                              obtain ⟨kq, x5_21, HA, HJ21, HO_5, HB⟩ := hcut
                              cases kq with
                              | zero => exact absurd HA.out (by simp [gangwaylaw2_UtfBytes.j3])
                              | succ kj21 =>
                                have H := HA.out
                                clear HA
                                simp only [gangwaylaw2_UtfBytes.j3] at H
                                by_cases c24 : 0 ≤ x3_1
                                · rw [if_pos c24] at H
                                  have c24b0 : decide (0 ≤ x3_1) = true := decide_eq_true c24
                                  clear c24
                                  by_cases c25 : x3_1 < (l0.length : Int)
                                  · rw [if_pos c25] at H
                                    have c25b0 : decide (x3_1 < (l0.length : Int)) = true := decide_eq_true c25
                                    clear c25
                                    replace H := Option.bind_eq_some_iff.mp H
                                    obtain ⟨⟨t267, t268⟩, A260, H⟩ := H
                                    replace H : ((gangwaylaw2_num.f t268).bind fun t271 => (if t271 = x4_3 then ((gangwayref0_EqBytes.f kj21 t267 x5_21).bind fun t272 => (if t272 = true then (gangwaylaw2_UtfBytes.l0 kj21 l0 (wrap64 (x3_1 + 1))) else (some false))) else (some false))) = some r := H
                                    have A26 := Aside0.mk A260
                                    clear A260
                                    replace H := Option.bind_eq_some_iff.mp H
                                    obtain ⟨t271, A270, H⟩ := H
                                    replace H : (if t271 = x4_3 then ((gangwayref0_EqBytes.f kj21 t267 x5_21).bind fun t272 => (if t272 = true then (gangwaylaw2_UtfBytes.l0 kj21 l0 (wrap64 (x3_1 + 1))) else (some false))) else (some false)) = some r := H
                                    have A27 := Aside0.mk A270
                                    clear A270
                                    by_cases c28 : t271 = x4_3
                                    · rw [if_pos c28] at H
                                      have c28b0 : (t271 == x4_3) = true := beq_iff_eq.mpr c28
                                      have c28b1 : (t271 != x4_3) = false := bne_eq_false_iff_eq.mpr c28
                                      clear c28
                                      replace H := Option.bind_eq_some_iff.mp H
                                      obtain ⟨t272, A290, H⟩ := H
                                      replace H : (if t272 = true then (gangwaylaw2_UtfBytes.l0 kj21 l0 (wrap64 (x3_1 + 1))) else (some false)) = some r := H
                                      have A29 := Aside0.mk A290
                                      clear A290
                                      by_cases c30 : t272 = true
                                      · subst c30
                                        have H1 : (gangwaylaw2_UtfBytes.l0 kj21 l0 (wrap64 (x3_1 + 1))) = some r := by rw [if_pos rfl] at H; exact H
                                        clear H
                                        have H := H1
                                        clear H1
                                        have H' := Aside0.mk H
                                        clear H
                                        have p266 : 0 ≤ (x3_1 : Int) := of_decide_eq_true (by first | (with_reducible assumption) | assumption)
                                        have q266 : x3_1 < (l0.length : Int) := of_decide_eq_true (by first | (with_reducible assumption) | assumption)
                                        obtain ⟨ad266, A266_0, c266_0, A266_1, c266_1, e266, hx266_0, hx266_1, hl266_0, hi266_0, hl266_1, hi266_1⟩ := at_T27 HR0.out x3_1 p266 q266
                                        obtain rfl : ad252 = ad266 := (by injection e266)
                                        replace hx266_0 := (HB.out.cell (World.block_lt_of_cell? w _ hx266_0)).trans hx266_0
                                        replace hx266_1 := (HB.out.cell (World.block_lt_of_cell? w _ hx266_1)).trans hx266_1
                                        have HR266_0 := Aside0.mk hi266_0
                                        have HC266_0 := Aside0.mk hl266_0
                                        clear hi266_0 hl266_0
                                        have HR266_1 := Aside0.mk hi266_1
                                        have HC266_1 := Aside0.mk hl266_1
                                        clear hi266_1 hl266_1
                                        replace p266 := eq_true p266
                                        replace q266 := eq_true q266
                                        go_wp2_with (first | ((with_reducible refine gate_callee (f := 19) rfl ?_); refine goesL_ (some 63) rfl rfl Try.func19 (by kernel_rfl) rfl #[.slice A266_1 ((rd_T27 l0 x3_1).f1).length c266_1] rfl (by (try simp only [List.map_toArray, List.map_cons, List.map_nil]); first | done | rfl | (simp only [List.length_drop, List.length_take]; rfl)) ?_; (with_reducible refine (utf_Bytes.calls kj21 _ _ ((rd_T27 l0 x3_1).f1) t267 t268 _ ?side1 ?side2 A26.out).mono ?_); (case side1 => repeat (first | exact (Kd.C_below HR266_1.out HB.out) | (with_reducible refine Kd.C_alloc ?_ _) | (with_reducible refine Kd.C_drewN ?_ _) | (with_reducible refine Kd.C_drew ?_))); (case side2 => exact HC266_1.out); rintro e w31 ⟨v269, rfl, ho0, hb⟩; refine ⟨_, rfl, ?_⟩; have n0_ := Aside0.mk (Kd.R_elder' (by (with_reducible repeat (first | apply Kd.R_alloc | apply Kd.R_drewN | apply Kd.R_drew)); exact HO_5.out) (Kd.R_base ho0) hb); have n1_ := Aside0.mk (Kd.R_lower (Kd.R_new' ho0 (Kd.R_lt (by (with_reducible repeat (first | apply Kd.R_alloc | apply Kd.R_drewN | apply Kd.R_drew)); exact HO_5.out))) (below_size (by repeat (first | (with_reducible first | exact HB.out | apply below_alloc | apply pw_below_drewN | apply below_drew1) | exact HB.out)))); have n2_ := Aside0.mk (below_step (by repeat (first | (with_reducible first | exact HB.out | apply below_alloc | apply pw_below_drewN | apply below_drew1) | exact HB.out)) hb); clear HO_5; clear HB; have HO_5 := n0_; have HO270 := n1_; have HB := n2_; clear n0_ n1_ n2_; (try clear hb); (try clear hb2); (try clear hk); (try clear hi); (try clear ho0)) | ((with_reducible refine gate_callee (f := 11) rfl ?_); refine goesL_ (some 67) rfl rfl Try.func11 (by kernel_rfl) rfl #[.int .i64 t268] rfl (by (try simp only [List.map_toArray, List.map_cons, List.map_nil]); first | done | rfl | (simp only [List.length_drop, List.length_take]; rfl)) ?_; (with_reducible refine (gangwaylaw2_num.calls t268 t271 _ A27.out).mono ?_); rintro e w' ⟨rfl, ⟨nd, rfl⟩⟩; refine ⟨_, rfl, ?_⟩; obtain ⟨Ao32, co32, eo32⟩ := Kd.R_slice HO270.out; subst eo32; obtain ⟨Ao33, co33, eo33⟩ := Kd.R_slice HO_5.out; subst eo33) | (go_at_call 14; (with_reducible refine (gangwayref0_EqBytes.calls kj21 _ _ t267 _ _ x5_21 true _ ?side1 ?side2 ?side3 ?side4 A29.out).mono ?_); (case side1 => repeat (first | exact (Kd.R_reads' HO270.out).2.2 | (with_reducible refine Kd.C_alloc ?_ _) | (with_reducible refine Kd.C_drewN ?_ _) | (with_reducible refine Kd.C_drew ?_))); (case side2 => exact (Kd.R_reads' HO270.out).2.1); (case side3 => repeat (first | exact (Kd.R_reads' HO_5.out).2.2 | (with_reducible refine Kd.C_alloc ?_ _) | (with_reducible refine Kd.C_drewN ?_ _) | (with_reducible refine Kd.C_drew ?_))); (case side4 => exact (Kd.R_reads' HO_5.out).2.1); rintro e w' ⟨rfl, ⟨nd, rfl⟩⟩))
                                        go_roundg kj21
                                        case measure => have := HK1.out; have := HJ1.out; have := HK3.out; have := HJ21.out; omega
                                        case rel => exact ⟨(wrap64 (x3_1 + 1)), (by first | rfl | (simp; done) | (simp [*]; done)), H', ⟨by have := HK1.out; have := HJ1.out; have := HK3.out; have := HJ21.out; omega⟩, ⟨by repeat (first | (with_reducible first | exact HB.out | apply below_alloc | apply pw_below_drewN | apply below_drew1) | exact HB.out)⟩⟩
                                      · replace c30 := Bool.eq_false_iff.mpr c30
                                        subst c30
                                        have H1 : (some false) = some r := by rw [if_neg (show ¬ (false = true) by decide)] at H; exact H
                                        clear H
                                        have H := H1
                                        clear H1
                                        obtain rfl := Option.some.inj H
                                        have p266 : 0 ≤ (x3_1 : Int) := of_decide_eq_true (by first | (with_reducible assumption) | assumption)
                                        have q266 : x3_1 < (l0.length : Int) := of_decide_eq_true (by first | (with_reducible assumption) | assumption)
                                        obtain ⟨ad266, A266_0, c266_0, A266_1, c266_1, e266, hx266_0, hx266_1, hl266_0, hi266_0, hl266_1, hi266_1⟩ := at_T27 HR0.out x3_1 p266 q266
                                        obtain rfl : ad252 = ad266 := (by injection e266)
                                        replace hx266_0 := (HB.out.cell (World.block_lt_of_cell? w _ hx266_0)).trans hx266_0
                                        replace hx266_1 := (HB.out.cell (World.block_lt_of_cell? w _ hx266_1)).trans hx266_1
                                        have HR266_0 := Aside0.mk hi266_0
                                        have HC266_0 := Aside0.mk hl266_0
                                        clear hi266_0 hl266_0
                                        have HR266_1 := Aside0.mk hi266_1
                                        have HC266_1 := Aside0.mk hl266_1
                                        clear hi266_1 hl266_1
                                        replace p266 := eq_true p266
                                        replace q266 := eq_true q266
                                        go_wp2_with (first | ((with_reducible refine gate_callee (f := 19) rfl ?_); refine goesL_ (some 63) rfl rfl Try.func19 (by kernel_rfl) rfl #[.slice A266_1 ((rd_T27 l0 x3_1).f1).length c266_1] rfl (by (try simp only [List.map_toArray, List.map_cons, List.map_nil]); first | done | rfl | (simp only [List.length_drop, List.length_take]; rfl)) ?_; (with_reducible refine (utf_Bytes.calls kj21 _ _ ((rd_T27 l0 x3_1).f1) t267 t268 _ ?side1 ?side2 A26.out).mono ?_); (case side1 => repeat (first | exact (Kd.C_below HR266_1.out HB.out) | (with_reducible refine Kd.C_alloc ?_ _) | (with_reducible refine Kd.C_drewN ?_ _) | (with_reducible refine Kd.C_drew ?_))); (case side2 => exact HC266_1.out); rintro e w34 ⟨v269, rfl, ho0, hb⟩; refine ⟨_, rfl, ?_⟩; have n0_ := Aside0.mk (Kd.R_elder' (by (with_reducible repeat (first | apply Kd.R_alloc | apply Kd.R_drewN | apply Kd.R_drew)); exact HO_5.out) (Kd.R_base ho0) hb); have n1_ := Aside0.mk (Kd.R_lower (Kd.R_new' ho0 (Kd.R_lt (by (with_reducible repeat (first | apply Kd.R_alloc | apply Kd.R_drewN | apply Kd.R_drew)); exact HO_5.out))) (below_size (by repeat (first | (with_reducible first | exact HB.out | apply below_alloc | apply pw_below_drewN | apply below_drew1) | exact HB.out)))); have n2_ := Aside0.mk (below_step (by repeat (first | (with_reducible first | exact HB.out | apply below_alloc | apply pw_below_drewN | apply below_drew1) | exact HB.out)) hb); clear HO_5; clear HB; have HO_5 := n0_; have HO270 := n1_; have HB := n2_; clear n0_ n1_ n2_; (try clear hb); (try clear hb2); (try clear hk); (try clear hi); (try clear ho0)) | ((with_reducible refine gate_callee (f := 11) rfl ?_); refine goesL_ (some 67) rfl rfl Try.func11 (by kernel_rfl) rfl #[.int .i64 t268] rfl (by (try simp only [List.map_toArray, List.map_cons, List.map_nil]); first | done | rfl | (simp only [List.length_drop, List.length_take]; rfl)) ?_; (with_reducible refine (gangwaylaw2_num.calls t268 t271 _ A27.out).mono ?_); rintro e w' ⟨rfl, ⟨nd, rfl⟩⟩; refine ⟨_, rfl, ?_⟩; obtain ⟨Ao35, co35, eo35⟩ := Kd.R_slice HO270.out; subst eo35; obtain ⟨Ao36, co36, eo36⟩ := Kd.R_slice HO_5.out; subst eo36) | (go_at_call 14; (with_reducible refine (gangwayref0_EqBytes.calls kj21 _ _ t267 _ _ x5_21 false _ ?side1 ?side2 ?side3 ?side4 A29.out).mono ?_); (case side1 => repeat (first | exact (Kd.R_reads' HO270.out).2.2 | (with_reducible refine Kd.C_alloc ?_ _) | (with_reducible refine Kd.C_drewN ?_ _) | (with_reducible refine Kd.C_drew ?_))); (case side2 => exact (Kd.R_reads' HO270.out).2.1); (case side3 => repeat (first | exact (Kd.R_reads' HO_5.out).2.2 | (with_reducible refine Kd.C_alloc ?_ _) | (with_reducible refine Kd.C_drewN ?_ _) | (with_reducible refine Kd.C_drew ?_))); (case side4 => exact (Kd.R_reads' HO_5.out).2.1); rintro e w' ⟨rfl, ⟨nd, rfl⟩⟩))
                                        go_ret
                                        exact ⟨by first | rfl | (simp [errW_none, errW_some] <;> rfl) | (simp [*, errW_none, errW_some] <;> rfl), by repeat (first | (with_reducible first | exact HB.out | apply below_alloc | apply pw_below_drewN | apply below_drew1) | exact HB.out)⟩
                                    · rw [if_neg c28] at H
                                      have c28b0 : (t271 == x4_3) = false := beq_eq_false_iff_ne.mpr c28
                                      have c28b1 : (t271 != x4_3) = true := bne_iff_ne.mpr c28
                                      obtain rfl := Option.some.inj H
                                      have p266 : 0 ≤ (x3_1 : Int) := of_decide_eq_true (by first | (with_reducible assumption) | assumption)
                                      have q266 : x3_1 < (l0.length : Int) := of_decide_eq_true (by first | (with_reducible assumption) | assumption)
                                      obtain ⟨ad266, A266_0, c266_0, A266_1, c266_1, e266, hx266_0, hx266_1, hl266_0, hi266_0, hl266_1, hi266_1⟩ := at_T27 HR0.out x3_1 p266 q266
                                      obtain rfl : ad252 = ad266 := (by injection e266)
                                      replace hx266_0 := (HB.out.cell (World.block_lt_of_cell? w _ hx266_0)).trans hx266_0
                                      replace hx266_1 := (HB.out.cell (World.block_lt_of_cell? w _ hx266_1)).trans hx266_1
                                      have HR266_0 := Aside0.mk hi266_0
                                      have HC266_0 := Aside0.mk hl266_0
                                      clear hi266_0 hl266_0
                                      have HR266_1 := Aside0.mk hi266_1
                                      have HC266_1 := Aside0.mk hl266_1
                                      clear hi266_1 hl266_1
                                      replace p266 := eq_true p266
                                      replace q266 := eq_true q266
                                      go_wp2_with (first | ((with_reducible refine gate_callee (f := 19) rfl ?_); refine goesL_ (some 63) rfl rfl Try.func19 (by kernel_rfl) rfl #[.slice A266_1 ((rd_T27 l0 x3_1).f1).length c266_1] rfl (by (try simp only [List.map_toArray, List.map_cons, List.map_nil]); first | done | rfl | (simp only [List.length_drop, List.length_take]; rfl)) ?_; (with_reducible refine (utf_Bytes.calls kj21 _ _ ((rd_T27 l0 x3_1).f1) t267 t268 _ ?side1 ?side2 A26.out).mono ?_); (case side1 => repeat (first | exact (Kd.C_below HR266_1.out HB.out) | (with_reducible refine Kd.C_alloc ?_ _) | (with_reducible refine Kd.C_drewN ?_ _) | (with_reducible refine Kd.C_drew ?_))); (case side2 => exact HC266_1.out); rintro e w37 ⟨v269, rfl, ho0, hb⟩; refine ⟨_, rfl, ?_⟩; have n0_ := Aside0.mk (Kd.R_elder' (by (with_reducible repeat (first | apply Kd.R_alloc | apply Kd.R_drewN | apply Kd.R_drew)); exact HO_5.out) (Kd.R_base ho0) hb); have n1_ := Aside0.mk (Kd.R_lower (Kd.R_new' ho0 (Kd.R_lt (by (with_reducible repeat (first | apply Kd.R_alloc | apply Kd.R_drewN | apply Kd.R_drew)); exact HO_5.out))) (below_size (by repeat (first | (with_reducible first | exact HB.out | apply below_alloc | apply pw_below_drewN | apply below_drew1) | exact HB.out)))); have n2_ := Aside0.mk (below_step (by repeat (first | (with_reducible first | exact HB.out | apply below_alloc | apply pw_below_drewN | apply below_drew1) | exact HB.out)) hb); clear HO_5; clear HB; have HO_5 := n0_; have HO270 := n1_; have HB := n2_; clear n0_ n1_ n2_; (try clear hb); (try clear hb2); (try clear hk); (try clear hi); (try clear ho0)) | ((with_reducible refine gate_callee (f := 11) rfl ?_); refine goesL_ (some 67) rfl rfl Try.func11 (by kernel_rfl) rfl #[.int .i64 t268] rfl (by (try simp only [List.map_toArray, List.map_cons, List.map_nil]); first | done | rfl | (simp only [List.length_drop, List.length_take]; rfl)) ?_; (with_reducible refine (gangwaylaw2_num.calls t268 t271 _ A27.out).mono ?_); rintro e w' ⟨rfl, ⟨nd, rfl⟩⟩; refine ⟨_, rfl, ?_⟩))
                                      go_ret
                                      exact ⟨by first | rfl | (simp [errW_none, errW_some] <;> rfl) | (simp [*, errW_none, errW_some] <;> rfl), by repeat (first | (with_reducible first | exact HB.out | apply below_alloc | apply pw_below_drewN | apply below_drew1) | exact HB.out)⟩
                                  · rw [if_neg c25] at H
                                    exact absurd H (by simp)
                                · rw [if_neg c24] at H
                                  exact absurd H (by simp)
                        · rw [if_neg c12] at H
                          exact absurd H (by simp)
                      · rw [if_neg c11] at H
                        exact absurd H (by simp)
              · rw [if_neg c6] at H
                exact absurd H (by simp)
            · rw [if_neg c5] at H
              exact absurd H (by simp)
          · replace c4 := Bool.eq_false_iff.mpr c4
            subst c4
            have H1 : ((gangwaylaw2_wakes.f kj1).bind fun t251 => (some t251)) = some r := by rw [if_neg (show ¬ (false = true) by decide)] at H; exact H
            clear H
            have H := H1
            clear H1
            replace H := Option.bind_eq_some_iff.mp H
            obtain ⟨t251, A380, H⟩ := H
            replace H : (some t251) = some r := H
            have A38 := Aside0.mk A380
            clear A380
            obtain rfl := Option.some.inj H
            go_wp2_with (first | ((with_reducible refine gate_callee (f := 16) rfl ?_); refine goesL_ (some 76) rfl rfl Try.func16 (by kernel_rfl) rfl #[] rfl (by (try simp only [List.map_toArray, List.map_cons, List.map_nil]); first | done | rfl | (simp only [List.length_drop, List.length_take]; rfl)) ?_; (with_reducible refine (gangwaylaw2_wakes.calls kj1  t251 _ A38.out).mono ?_); rintro e w39 ⟨rfl, hb⟩; refine ⟨_, rfl, ?_⟩; have n0_ := Aside0.mk (below_step (by repeat (first | (with_reducible first | exact HB.out | apply below_alloc | apply pw_below_drewN | apply below_drew1) | exact HB.out)) hb); clear HB; have HB := n0_; clear n0_; (try clear hb); (try clear hb2); (try clear hk); (try clear hi)))
            go_ret
            exact ⟨by first | rfl | (simp [errW_none, errW_some] <;> rfl) | (simp [*, errW_none, errW_some] <;> rfl), by repeat (first | (with_reducible first | exact HB.out | apply below_alloc | apply pw_below_drewN | apply below_drew1) | exact HB.out)⟩

/-- THE ONE PURE STATEMENT of gangwaylaw2_UtfBytes: yours. -/
def gangwaylaw2_UtfBytes.Pure : Prop := ∀ (x0 : List (S27)), (x0.length * 48 ≤ 140737488351232 ∧ ∀ y273 ∈ x0, okT27 y273) → ∃ k, gangwaylaw2_UtfBytes.f k x0 = some true
theorem gangwaylaw2_UtfBytes.walk (P : gangwaylaw2_UtfBytes.Pure) (w : World) (x0 : List (S27)) (A0 : Option Addr) (c0 : Nat) (hr0 : Kd.C k27 w A0 x0.length x0) (hc0 : x0.length ≤ c0) (hok0 : (x0.length * 48 ≤ 140737488351232 ∧ ∀ y274 ∈ x0, okT27 y274)) :
    Calls Try.prog 4 #[.slice A0 x0.length c0] w fun e w' => e = .returned (.bool true) ∧ Below w.heap.size w w' := by
  obtain ⟨k, h⟩ := P x0 hok0
  refine (gangwaylaw2_UtfBytes.calls k _ _ x0 true w hr0 hc0 h).mono ?_
  rintro e w' ⟨rfl, hd⟩
  exact ⟨rfl, hd⟩

end Go.Proofs.Ytlggampmmlkkeaa.PAll
