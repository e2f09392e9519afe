/- Printed by a copy of the printer that was turned for this claim: functions as plain Lean functions, with proofs that their calls come to these; or words that such proofs use. -/
import Derived.Test.YtpaodfhhnhbacaaPAllx0
import Derived.Test.YtpaodfhhnhbacaaPAllx1
import Derived.Test.YtpaodfhhnhbacaaPAllx3
import Derived.Test.YtpaodfhhnhbacaaPAllx4
import Derived.Test.YtpaodfhhnhbacaaPAllx5
import Derived.Test.YtpaodfhhnhbacaaPAllx6
namespace Go.Proofs.Ytpaodfhhnhbacaa.PAll
open Go.RowKit Go.Proofs.YtpaodfhhnhbacaaW.PrintWords Go.Proofs.YtpaodfhhnhbacaaW.PrintLast Go.Proofs.YtpaodfhhnhbacaaW.PrintMore
attribute [local go_sem] max2_int min2_int max_two min_two max_three min_three max_four min_four   -- for this text's walks alone
set_option linter.unusedVariables false
set_option linter.unusedSimpArgs false

/-! ### gangwaylaw22_EnvBack: function 5 -/
mutual
def gangwaylaw22_EnvBack.l0 : Nat → List (S26) → Int → Option (Bool)
  | 0, _, _ => none
  | k + 1, x0, x3 => if x3 < (x0.length : Int) then (gangwaylaw22_EnvBack.j1 k x0 x3 (decide (x3 < 8))) else (gangwaylaw22_EnvBack.j1 k x0 x3 false)
def gangwaylaw22_EnvBack.j1 : Nat → List (S26) → Int → Bool → Option (Bool)
  | 0, _, _, _ => none
  | k + 1, x0, x3, x19 => if x19 = true then (if 0 ≤ x3 then (if x3 < (x0.length : Int) then ((gangwaylaw22_heavy.f k ((rd_T26 x0 x3).f0) ((rd_T26 x0 x3).f1) ((rd_T26 x0 x3).f2)).bind fun t306 => (if t306 = true then (gangwaylaw22_EnvBack.j2 k x0 x3 true ((rd_T26 x0 x3).f0) ((rd_T26 x0 x3).f1) ((rd_T26 x0 x3).f2)) else ((env_Check.f k ((rd_T26 x0 x3).f0)).bind fun t307 => ((gangwaylaw22_num.f t307).bind fun t308 => (gangwaylaw22_EnvBack.j2 k x0 x3 (t308 != 0) ((rd_T26 x0 x3).f0) ((rd_T26 x0 x3).f1) ((rd_T26 x0 x3).f2)))))) else (none)) else (none)) else ((gangwaylaw22_wakes.f k).bind fun t303 => (some t303))
def gangwaylaw22_EnvBack.j2 : Nat → List (S26) → Int → Bool → List ByteArray → Int → Int → Option (Bool)
  | 0, _, _, _, _, _, _ => none
  | k + 1, x0, x3, x34, x306000, x306001, x306002 => if x34 = true then (gangwaylaw22_EnvBack.l0 k x0 (wrap64 (x3 + 1))) else ((gangwaylaw19_Both.f k ([] : List Int)).bind fun bt309 => (if bt309.1 = true then (if bt309.2.2.2.1 = true then ((env_Lay.f k bt309.2.1 bt309.2.2.1 x306000 64 1024).bind fun bt321 => ((gangwaylaw22_num.f bt321.1).bind fun t326 => (if t326 = 0 then (gangwaylaw22_EnvBack.l1 k x0 x3 0 x306000 x306001 x306002 bt321.2.1 bt321.2.2) else (none)))) else (none)) else (none)))
def gangwaylaw22_EnvBack.l1 : Nat → List (S26) → Int → Int → List ByteArray → Int → Int → List Int → Int → Option (Bool)
  | 0, _, _, _, _, _, _, _, _ => none
  | k + 1, x0, x3, x7, x306000, x306001, x306002, x315000, x315001 => if x7 < (x306000.length : Int) then ((mem_Memory_Load.f k x315000 x315001 (wrap64 (64 + (wrap64 (4 * x7)))) 0 4).bind fun bt327 => ((gangwaylaw22_num.f bt327.2.1).bind fun t333 => (if t333 = 0 then (if bt327.1 < 1024 then (none) else (if bt327.1 > 9000 then (none) else (if 0 ≤ x7 then ((mem_Memory_Read.f bt327.2.2.1 bt327.2.2.2 (wrap64 (bt327.1)) (wrap64 (((rdOf ByteArray.empty x306000 x7).size : Int) + 1))).bind fun bt346 => ((gangwaylaw22_num.f bt346.2.1).bind fun t354 => (if t354 = 0 then (if (rdOf ByteArray.empty x306000 x7).size + 1 ≤ 9223372036854775807 then (if (strOfNums bt346.1).toList = ((rdOf ByteArray.empty x306000 x7) ++ (⟨#[0]⟩ : ByteArray)).toList then (gangwaylaw22_EnvBack.l1 k x0 x3 (wrap64 (x7 + 1)) x306000 x306001 x306002 bt346.2.2.1 bt346.2.2.2) else (none)) else (none)) else (none)))) else (none)))) else (none)))) else (gangwaylaw22_EnvBack.l0 k x0 (wrap64 (x3 + 1)))
end
def gangwaylaw22_EnvBack.f (k : Nat) (l0 : List (S26)) : Option (Bool) := gangwaylaw22_EnvBack.l0 k l0 0
theorem gangwaylaw22_EnvBack.mono_l : ∀ k, (∀ y0 y1, LeO (gangwaylaw22_EnvBack.l0 k y0 y1) (gangwaylaw22_EnvBack.l0 (k + 1) y0 y1)) ∧ (∀ y0 y1 y2, LeO (gangwaylaw22_EnvBack.j1 k y0 y1 y2) (gangwaylaw22_EnvBack.j1 (k + 1) y0 y1 y2)) ∧ (∀ y0 y1 y2 y3 y4 y5, LeO (gangwaylaw22_EnvBack.j2 k y0 y1 y2 y3 y4 y5) (gangwaylaw22_EnvBack.j2 (k + 1) y0 y1 y2 y3 y4 y5)) ∧ (∀ y0 y1 y2 y3 y4 y5 y6 y7, LeO (gangwaylaw22_EnvBack.l1 k y0 y1 y2 y3 y4 y5 y6 y7) (gangwaylaw22_EnvBack.l1 (k + 1) y0 y1 y2 y3 y4 y5 y6 y7))
  | 0 => ⟨fun _ _ r h => by simp [gangwaylaw22_EnvBack.l0] at h, fun _ _ _ r h => by simp [gangwaylaw22_EnvBack.j1] at h, fun _ _ _ _ _ _ r h => by simp [gangwaylaw22_EnvBack.j2] at h, fun _ _ _ _ _ _ _ _ r h => by simp [gangwaylaw22_EnvBack.l1] at h⟩
  | k + 1 => by
    obtain ⟨ih0, ih1, ih2, ih3⟩ := gangwaylaw22_EnvBack.mono_l k
    refine ⟨?_, ?_, ?_, ?_⟩
    · intro y0 y1
      unfold gangwaylaw22_EnvBack.l0
      repeat' first
      | (with_reducible exact ih0 _ _)
      | (with_reducible exact ih1 _ _ _)
      | (with_reducible exact ih2 _ _ _ _ _ _)
      | (with_reducible exact ih3 _ _ _ _ _ _ _ _)
      | (with_reducible exact env_Check.mono _ _)
      | (with_reducible exact env_Lay.mono _ _ _ _ _ _)
      | (with_reducible exact gangwaylaw19_Both.mono _ _)
      | (with_reducible exact gangwaylaw22_heavy.mono _ _ _ _)
      | (with_reducible exact gangwaylaw22_wakes.mono _)
      | (with_reducible exact mem_Memory_Load.mono _ _ _ _ _ _)
      | (with_reducible exact LeO.refl _)
      | (with_reducible exact LeO.none _)
      | (with_reducible refine LeO.ite ?_ ?_)
      | (with_reducible refine LeO.bind ?_ (fun _ => ?_))
      | exact ih0 _ _
      | exact ih1 _ _ _
      | exact ih2 _ _ _ _ _ _
      | exact ih3 _ _ _ _ _ _ _ _
      | exact env_Check.mono _ _
      | exact env_Lay.mono _ _ _ _ _ _
      | exact gangwaylaw19_Both.mono _ _
      | exact gangwaylaw22_heavy.mono _ _ _ _
      | exact gangwaylaw22_wakes.mono _
      | exact mem_Memory_Load.mono _ _ _ _ _ _
      | exact LeO.none _
      | refine LeO.ite ?_ ?_
      | refine LeO.bind ?_ (fun _ => ?_)
    · intro y0 y1 y2
      unfold gangwaylaw22_EnvBack.j1
      repeat' first
      | (with_reducible exact ih0 _ _)
      | (with_reducible exact ih1 _ _ _)
      | (with_reducible exact ih2 _ _ _ _ _ _)
      | (with_reducible exact ih3 _ _ _ _ _ _ _ _)
      | (with_reducible exact env_Check.mono _ _)
      | (with_reducible exact env_Lay.mono _ _ _ _ _ _)
      | (with_reducible exact gangwaylaw19_Both.mono _ _)
      | (with_reducible exact gangwaylaw22_heavy.mono _ _ _ _)
      | (with_reducible exact gangwaylaw22_wakes.mono _)
      | (with_reducible exact mem_Memory_Load.mono _ _ _ _ _ _)
      | (with_reducible exact LeO.refl _)
      | (with_reducible exact LeO.none _)
      | (with_reducible refine LeO.ite ?_ ?_)
      | (with_reducible refine LeO.bind ?_ (fun _ => ?_))
      | exact ih0 _ _
      | exact ih1 _ _ _
      | exact ih2 _ _ _ _ _ _
      | exact ih3 _ _ _ _ _ _ _ _
      | exact env_Check.mono _ _
      | exact env_Lay.mono _ _ _ _ _ _
      | exact gangwaylaw19_Both.mono _ _
      | exact gangwaylaw22_heavy.mono _ _ _ _
      | exact gangwaylaw22_wakes.mono _
      | exact mem_Memory_Load.mono _ _ _ _ _ _
      | exact LeO.none _
      | refine LeO.ite ?_ ?_
      | refine LeO.bind ?_ (fun _ => ?_)
    · intro y0 y1 y2 y3 y4 y5
      unfold gangwaylaw22_EnvBack.j2
      repeat' first
      | (with_reducible exact ih0 _ _)
      | (with_reducible exact ih1 _ _ _)
      | (with_reducible exact ih2 _ _ _ _ _ _)
      | (with_reducible exact ih3 _ _ _ _ _ _ _ _)
      | (with_reducible exact env_Check.mono _ _)
      | (with_reducible exact env_Lay.mono _ _ _ _ _ _)
      | (with_reducible exact gangwaylaw19_Both.mono _ _)
      | (with_reducible exact gangwaylaw22_heavy.mono _ _ _ _)
      | (with_reducible exact gangwaylaw22_wakes.mono _)
      | (with_reducible exact mem_Memory_Load.mono _ _ _ _ _ _)
      | (with_reducible exact LeO.refl _)
      | (with_reducible exact LeO.none _)
      | (with_reducible refine LeO.ite ?_ ?_)
      | (with_reducible refine LeO.bind ?_ (fun _ => ?_))
      | exact ih0 _ _
      | exact ih1 _ _ _
      | exact ih2 _ _ _ _ _ _
      | exact ih3 _ _ _ _ _ _ _ _
      | exact env_Check.mono _ _
      | exact env_Lay.mono _ _ _ _ _ _
      | exact gangwaylaw19_Both.mono _ _
      | exact gangwaylaw22_heavy.mono _ _ _ _
      | exact gangwaylaw22_wakes.mono _
      | exact mem_Memory_Load.mono _ _ _ _ _ _
      | exact LeO.none _
      | refine LeO.ite ?_ ?_
      | refine LeO.bind ?_ (fun _ => ?_)
    · intro y0 y1 y2 y3 y4 y5 y6 y7
      unfold gangwaylaw22_EnvBack.l1
      repeat' first
      | (with_reducible exact ih0 _ _)
      | (with_reducible exact ih1 _ _ _)
      | (with_reducible exact ih2 _ _ _ _ _ _)
      | (with_reducible exact ih3 _ _ _ _ _ _ _ _)
      | (with_reducible exact env_Check.mono _ _)
      | (with_reducible exact env_Lay.mono _ _ _ _ _ _)
      | (with_reducible exact gangwaylaw19_Both.mono _ _)
      | (with_reducible exact gangwaylaw22_heavy.mono _ _ _ _)
      | (with_reducible exact gangwaylaw22_wakes.mono _)
      | (with_reducible exact mem_Memory_Load.mono _ _ _ _ _ _)
      | (with_reducible exact LeO.refl _)
      | (with_reducible exact LeO.none _)
      | (with_reducible refine LeO.ite ?_ ?_)
      | (with_reducible refine LeO.bind ?_ (fun _ => ?_))
      | exact ih0 _ _
      | exact ih1 _ _ _
      | exact ih2 _ _ _ _ _ _
      | exact ih3 _ _ _ _ _ _ _ _
      | exact env_Check.mono _ _
      | exact env_Lay.mono _ _ _ _ _ _
      | exact gangwaylaw19_Both.mono _ _
      | exact gangwaylaw22_heavy.mono _ _ _ _
      | exact gangwaylaw22_wakes.mono _
      | exact mem_Memory_Load.mono _ _ _ _ _ _
      | exact LeO.none _
      | refine LeO.ite ?_ ?_
      | refine LeO.bind ?_ (fun _ => ?_)
theorem gangwaylaw22_EnvBack.mono : ∀ a0 k, LeO (gangwaylaw22_EnvBack.f k a0) (gangwaylaw22_EnvBack.f (k + 1) a0) := by
  intro a0 k
  obtain ⟨ih0, ih1, ih2, ih3⟩ := gangwaylaw22_EnvBack.mono_l k
  unfold gangwaylaw22_EnvBack.f
  repeat' first
      | (with_reducible exact ih0 _ _)
      | (with_reducible exact ih1 _ _ _)
      | (with_reducible exact ih2 _ _ _ _ _ _)
      | (with_reducible exact ih3 _ _ _ _ _ _ _ _)
      | (with_reducible exact env_Check.mono _ _)
      | (with_reducible exact env_Lay.mono _ _ _ _ _ _)
      | (with_reducible exact gangwaylaw19_Both.mono _ _)
      | (with_reducible exact gangwaylaw22_heavy.mono _ _ _ _)
      | (with_reducible exact gangwaylaw22_wakes.mono _)
      | (with_reducible exact mem_Memory_Load.mono _ _ _ _ _ _)
      | (with_reducible exact LeO.refl _)
      | (with_reducible exact LeO.none _)
      | (with_reducible refine LeO.ite ?_ ?_)
      | (with_reducible refine LeO.bind ?_ (fun _ => ?_))
      | exact ih0 _ _
      | exact ih1 _ _ _
      | exact ih2 _ _ _ _ _ _
      | exact ih3 _ _ _ _ _ _ _ _
      | exact env_Check.mono _ _
      | exact env_Lay.mono _ _ _ _ _ _
      | exact gangwaylaw19_Both.mono _ _
      | exact gangwaylaw22_heavy.mono _ _ _ _
      | exact gangwaylaw22_wakes.mono _
      | exact mem_Memory_Load.mono _ _ _ _ _ _
      | exact LeO.none _
      | refine LeO.ite ?_ ?_
      | refine LeO.bind ?_ (fun _ => ?_)
set_option maxHeartbeats 8000000 in
set_option maxRecDepth 100000 in
theorem gangwaylaw22_EnvBack.calls (k : Nat) (A0 : Option Addr) (c0 : Nat) (l0 : List (S26)) (r : Bool) (w : World) (hr0 : Kd.C k26 w A0 l0.length l0) (hc0 : l0.length ≤ c0) (h : gangwaylaw22_EnvBack.f k l0 = some r) :
    Calls Try.prog 5 #[.slice A0 l0.length c0] w fun e w' => e = .returned (.bool r) ∧ Below w.heap.size w w' := by
  have hu26 := Try.underlying26
  have HR0 := Aside0.mk hr0
  have HC0 := Aside0.mk hc0
  clear hr0 hc0
  have HB := Aside0.mk (Below.refl w.heap.size w)
  have H : (gangwaylaw22_EnvBack.l0 k l0 0) = some r := h
  clear h
  have H' := Aside0.mk H
  clear H
  go_enter Try.func5, Try.ntmps5
  go_wp2
  repeat (go_quiet (fail); try go_wp2)
  go_loopg [3] k (fun kq v3 w' => ∃ (x3_1 : Int), v3 = .int .i64 x3_1 ∧ Aside0 (gangwaylaw22_EnvBack.l0 kq l0 x3_1 = some r) ∧ Aside0 (kq ≤ k) ∧ Aside0 (Below w.heap.size w w'))
  case atStart => exact ⟨(0), (by first | rfl | (simp; done) | (simp [*]; done)), H', ⟨Nat.le_refl _⟩, ⟨by repeat (first | (with_reducible first | exact HB.out | apply below_alloc | apply pw_below_drewN | apply below_drew1) | exact HB.out)⟩⟩
  case round =>
    clear H'
    obtain ⟨x3_1, rfl, HA, HK1, HB⟩ := hrel
    cases gk with
    | zero => exact absurd HA.out (by simp [gangwaylaw22_EnvBack.l0])
    | succ k1 =>
      have H := HA.out
      clear HA
      simp only [gangwaylaw22_EnvBack.l0] at H
      have HC2 := Aside0.mk H
      clear H
      go_upto_region 2 with (fail)
      repeat (go_quiet (fail); go_upto_region 2 with (fail))
      go_cut [19] (fun v19 wc => ∃ (kq : Nat) (x19_1 : Bool), v19 = .bool x19_1 ∧ Aside0 (gangwaylaw22_EnvBack.j1 kq l0 x3_1 x19_1 = some r) ∧ Aside0 (kq ≤ k1) ∧ Aside0 (Below w.heap.size w wc))
      case first =>
        have H := HC2.out
        clear HC2
        by_cases c3 : x3_1 < (l0.length : Int)
        · rw [if_pos c3] at H
          have c3b0 : decide (x3_1 < (l0.length : Int)) = true := decide_eq_true c3
          clear c3
          (first | rw [c3b0] | (simp only [i64_w, i32_w]; rw [c3b0]) | skip)
          have H' := Aside0.mk H
          clear H
          go_wp2
          repeat (go_quiet (fail); try go_wp2)
          go_meet
          case rel => exact ⟨_, (decide (x3_1 < 8)), (by first | rfl | (simp; done) | (simp [*]; done)), H', ⟨by have := HK1.out; first | omega | exact Nat.le_refl _⟩, ⟨by repeat (first | (with_reducible first | exact HB.out | apply below_alloc | apply pw_below_drewN | apply below_drew1) | exact HB.out)⟩⟩
        · rw [if_neg c3] at H
          have c3b0 : decide (x3_1 < (l0.length : Int)) = false := decide_eq_false c3
          clear c3
          (first | rw [c3b0] | (simp only [i64_w, i32_w]; rw [c3b0]) | skip)
          have H' := Aside0.mk H
          clear H
          go_wp2
          repeat (go_quiet (fail); try go_wp2)
          go_meet
          case rel => exact ⟨_, (false), (by first | rfl | (simp; done) | (simp [*]; done)), H', ⟨by have := HK1.out; first | omega | exact Nat.le_refl _⟩, ⟨by repeat (first | (with_reducible first | exact HB.out | apply below_alloc | apply pw_below_drewN | apply below_drew1) | exact HB.out)⟩⟩
      case rest =>
        clear HC2
        try clear p2
        try clear c3
        try clear c3b0
        obtain ⟨kq, x19_1, rfl, HA, HJ1, HB⟩ := hcut
        cases kq with
        | zero => exact absurd HA.out (by simp [gangwaylaw22_EnvBack.j1])
        | succ kj1 =>
          have H := HA.out
          clear HA
          simp only [gangwaylaw22_EnvBack.j1] at H
          by_cases c4 : x19_1 = true
          · subst c4
            have H1 : (if 0 ≤ x3_1 then (if x3_1 < (l0.length : Int) then ((gangwaylaw22_heavy.f kj1 ((rd_T26 l0 x3_1).f0) ((rd_T26 l0 x3_1).f1) ((rd_T26 l0 x3_1).f2)).bind fun t306 => (if t306 = true then (gangwaylaw22_EnvBack.j2 kj1 l0 x3_1 true ((rd_T26 l0 x3_1).f0) ((rd_T26 l0 x3_1).f1) ((rd_T26 l0 x3_1).f2)) else ((env_Check.f kj1 ((rd_T26 l0 x3_1).f0)).bind fun t307 => ((gangwaylaw22_num.f t307).bind fun t308 => (gangwaylaw22_EnvBack.j2 kj1 l0 x3_1 (t308 != 0) ((rd_T26 l0 x3_1).f0) ((rd_T26 l0 x3_1).f1) ((rd_T26 l0 x3_1).f2)))))) else (none)) else (none)) = some r := by rw [if_pos rfl] at H; exact H
            clear H
            have H := H1
            clear H1
            by_cases c5 : 0 ≤ x3_1
            · rw [if_pos c5] at H
              have c5b0 : decide (0 ≤ x3_1) = true := decide_eq_true c5
              clear c5
              by_cases c6 : x3_1 < (l0.length : Int)
              · rw [if_pos c6] at H
                have c6b0 : decide (x3_1 < (l0.length : Int)) = true := decide_eq_true c6
                clear c6
                have HC7 := Aside0.mk H
                clear H
                have p304 : 0 ≤ (x3_1 : Int) := of_decide_eq_true (by first | (with_reducible assumption) | assumption)
                have q304 : x3_1 < (l0.length : Int) := of_decide_eq_true (by first | (with_reducible assumption) | assumption)
                obtain ⟨ad304, A304_0, c304_0, e304, hx304_0, hx304_1, hx304_2, hl304_0, hi304_0⟩ := at_T26 HR0.out x3_1 p304 q304
                cases e304
                replace hx304_0 := (HB.out.cell (World.block_lt_of_cell? w _ hx304_0)).trans hx304_0
                replace hx304_1 := (HB.out.cell (World.block_lt_of_cell? w _ hx304_1)).trans hx304_1
                replace hx304_2 := (HB.out.cell (World.block_lt_of_cell? w _ hx304_2)).trans hx304_2
                have HR304_0 := Aside0.mk hi304_0
                have HC304_0 := Aside0.mk hl304_0
                clear hi304_0 hl304_0
                replace p304 := eq_true p304
                replace q304 := eq_true q304
                go_upto_region 5 with (first | ((with_reducible refine gate_dst (N := 4) rfl ?_); refine box_event ?hg (N := 4) ?hd (cs := #[.slice none 0 0, .int .i64 0, .int .i64 0]) (t := 26) ?hr ?_; (case hd => rfl); (case hg => rfl); (case hr => first | (go_simp; done) | (go_simp; rfl)); intro gb305 hg w8 hbox hb; have n0_ := Aside0.mk (below_step (by repeat (first | (with_reducible first | exact HB.out | apply below_alloc | apply pw_below_drewN | apply below_drew1) | exact HB.out)) hb); have n1_ := Aside0.mk (hbox); have n2_ := Aside0.mk ((by rw [hg]; exact (below_size (by repeat (first | (with_reducible first | exact HB.out | apply below_alloc | apply pw_below_drewN | apply below_drew1) | exact HB.out))) : w.heap.size ≤ gb305)); have n3_ := Aside0.mk ((by rw [hg]; exact (below_size (by repeat (first | (with_reducible first | exact HB.out | apply below_alloc | apply pw_below_drewN | apply below_drew1) | exact HB.out))) : w.heap.size ≤ gb305)); clear HB; have HB := n0_; have BK305 := n1_; have GW305 := n2_; have GE305 := n3_; clear n0_ n1_ n2_ n3_; clear hb hbox hg; have hcz9_0 : w8.cell? ⟨gb305, 0, none⟩ = some (.slice none 0 0) := (blk_cell BK305.out 0).trans rfl; have hcz9_1 : w8.cell? ⟨gb305, 1, none⟩ = some (.int .i64 0) := (blk_cell BK305.out 1).trans rfl; have hcz9_2 : w8.cell? ⟨gb305, 2, none⟩ = some (.int .i64 0) := (blk_cell BK305.out 2).trans rfl; have hfz9_0 := blk_frozen BK305.out 0; have hfz9_1 := blk_frozen BK305.out 1; have hfz9_2 := blk_frozen BK305.out 2))
                repeat (go_quiet (first | ((with_reducible refine gate_dst (N := 4) rfl ?_); refine box_event ?hg (N := 4) ?hd (cs := #[.slice none 0 0, .int .i64 0, .int .i64 0]) (t := 26) ?hr ?_; (case hd => rfl); (case hg => rfl); (case hr => first | (go_simp; done) | (go_simp; rfl)); intro gb305 hg w8 hbox hb; have n0_ := Aside0.mk (below_step (by repeat (first | (with_reducible first | exact HB.out | apply below_alloc | apply pw_below_drewN | apply below_drew1) | exact HB.out)) hb); have n1_ := Aside0.mk (hbox); have n2_ := Aside0.mk ((by rw [hg]; exact (below_size (by repeat (first | (with_reducible first | exact HB.out | apply below_alloc | apply pw_below_drewN | apply below_drew1) | exact HB.out))) : w.heap.size ≤ gb305)); have n3_ := Aside0.mk ((by rw [hg]; exact (below_size (by repeat (first | (with_reducible first | exact HB.out | apply below_alloc | apply pw_below_drewN | apply below_drew1) | exact HB.out))) : w.heap.size ≤ gb305)); clear HB; have HB := n0_; have BK305 := n1_; have GW305 := n2_; have GE305 := n3_; clear n0_ n1_ n2_ n3_; clear hb hbox hg; have hcz9_0 : w8.cell? ⟨gb305, 0, none⟩ = some (.slice none 0 0) := (blk_cell BK305.out 0).trans rfl; have hcz9_1 : w8.cell? ⟨gb305, 1, none⟩ = some (.int .i64 0) := (blk_cell BK305.out 1).trans rfl; have hcz9_2 : w8.cell? ⟨gb305, 2, none⟩ = some (.int .i64 0) := (blk_cell BK305.out 2).trans rfl; have hfz9_0 := blk_frozen BK305.out 0; have hfz9_1 := blk_frozen BK305.out 1; have hfz9_2 := blk_frozen BK305.out 2)); go_upto_region 5 with (first | ((with_reducible refine gate_dst (N := 4) rfl ?_); refine box_event ?hg (N := 4) ?hd (cs := #[.slice none 0 0, .int .i64 0, .int .i64 0]) (t := 26) ?hr ?_; (case hd => rfl); (case hg => rfl); (case hr => first | (go_simp; done) | (go_simp; rfl)); intro gb305 hg w8 hbox hb; have n0_ := Aside0.mk (below_step (by repeat (first | (with_reducible first | exact HB.out | apply below_alloc | apply pw_below_drewN | apply below_drew1) | exact HB.out)) hb); have n1_ := Aside0.mk (hbox); have n2_ := Aside0.mk ((by rw [hg]; exact (below_size (by repeat (first | (with_reducible first | exact HB.out | apply below_alloc | apply pw_below_drewN | apply below_drew1) | exact HB.out))) : w.heap.size ≤ gb305)); have n3_ := Aside0.mk ((by rw [hg]; exact (below_size (by repeat (first | (with_reducible first | exact HB.out | apply below_alloc | apply pw_below_drewN | apply below_drew1) | exact HB.out))) : w.heap.size ≤ gb305)); clear HB; have HB := n0_; have BK305 := n1_; have GW305 := n2_; have GE305 := n3_; clear n0_ n1_ n2_ n3_; clear hb hbox hg; have hcz9_0 : w8.cell? ⟨gb305, 0, none⟩ = some (.slice none 0 0) := (blk_cell BK305.out 0).trans rfl; have hcz9_1 : w8.cell? ⟨gb305, 1, none⟩ = some (.int .i64 0) := (blk_cell BK305.out 1).trans rfl; have hcz9_2 : w8.cell? ⟨gb305, 2, none⟩ = some (.int .i64 0) := (blk_cell BK305.out 2).trans rfl; have hfz9_0 := blk_frozen BK305.out 0; have hfz9_1 := blk_frozen BK305.out 1; have hfz9_2 := blk_frozen BK305.out 2)))
                (try simp only [Act.put, List.setIfInBounds_toArray, List.set_cons_zero, List.set_cons_succ])
                go_cut [34] (fun v34 wc => ∃ (kq : Nat) (x34_6 : Bool), v34 = .bool x34_6 ∧ Aside0 (gangwaylaw22_EnvBack.j2 kq l0 x3_1 x34_6 ((rd_T26 l0 x3_1).f0) ((rd_T26 l0 x3_1).f1) ((rd_T26 l0 x3_1).f2) = some r) ∧ Aside0 (kq ≤ kj1) ∧ Aside0 (wc.heap[gb305]? = some (.cells #[(.slice A304_0 ((rd_T26 l0 x3_1).f0).length c304_0), .int .i64 ((rd_T26 l0 x3_1).f1), .int .i64 ((rd_T26 l0 x3_1).f2)] 26 (0, 0))) ∧ Aside0 (Below w.heap.size w wc))
                case first =>
                  have H := HC7.out
                  clear HC7
                  replace H := Option.bind_eq_some_iff.mp H
                  obtain ⟨t306, A100, H⟩ := H
                  replace H : (if t306 = true then (gangwaylaw22_EnvBack.j2 kj1 l0 x3_1 true ((rd_T26 l0 x3_1).f0) ((rd_T26 l0 x3_1).f1) ((rd_T26 l0 x3_1).f2)) else ((env_Check.f kj1 ((rd_T26 l0 x3_1).f0)).bind fun t307 => ((gangwaylaw22_num.f t307).bind fun t308 => (gangwaylaw22_EnvBack.j2 kj1 l0 x3_1 (t308 != 0) ((rd_T26 l0 x3_1).f0) ((rd_T26 l0 x3_1).f1) ((rd_T26 l0 x3_1).f2))))) = some r := H
                  have A10 := Aside0.mk A100
                  clear A100
                  by_cases c11 : t306 = true
                  · subst c11
                    have H1 : (gangwaylaw22_EnvBack.j2 kj1 l0 x3_1 true ((rd_T26 l0 x3_1).f0) ((rd_T26 l0 x3_1).f1) ((rd_T26 l0 x3_1).f2)) = some r := by rw [if_pos rfl] at H; exact H
                    clear H
                    have H := H1
                    clear H1
                    have H' := Aside0.mk H
                    clear H
                    have hcz12_0 : w8.cell? ⟨gb305, 0, none⟩ = some (.slice none 0 0) := (blk_cell BK305.out 0).trans rfl
                    have hcz12_1 : w8.cell? ⟨gb305, 1, none⟩ = some (.int .i64 0) := (blk_cell BK305.out 1).trans rfl
                    have hcz12_2 : w8.cell? ⟨gb305, 2, none⟩ = some (.int .i64 0) := (blk_cell BK305.out 2).trans rfl
                    have hfz12_0 := blk_frozen BK305.out 0
                    have hfz12_1 := blk_frozen BK305.out 1
                    have hfz12_2 := blk_frozen BK305.out 2
                    go_wp2_with (first | (go_at_call 6; (with_reducible refine (gangwaylaw22_heavy.calls kj1 _ _ ((rd_T26 l0 x3_1).f0) ((rd_T26 l0 x3_1).f1) ((rd_T26 l0 x3_1).f2) true _ ?side1 ?side2 A10.out).mono ?_); (case side1 => exact Kd.C_below HR304_0.out (by repeat (first | (with_reducible first | exact HB.out | apply below_alloc | apply pw_below_drewN | apply below_drew1 | refine below_set ?_ GE305.out) | exact HB.out))); (case side2 => exact HC304_0.out); rintro e w13 ⟨rfl, hb⟩; have n0_ := Aside0.mk (blk_below (g := gb305) (o := .cells #[.slice A304_0 ((rd_T26 l0 x3_1).f0).length c304_0, .int .i64 ((rd_T26 l0 x3_1).f1), .int .i64 ((rd_T26 l0 x3_1).f2)] 26 (0, 0)) (by (with_reducible repeat (first | refine blk_drewN ?_ _ | refine blk_drew ?_ | refine blk_alloc ?_ _)); refine blk_put (cs := #[.slice A304_0 ((rd_T26 l0 x3_1).f0).length c304_0, .int .i64 ((rd_T26 l0 x3_1).f1), .int .i64 0]) ?_ 2 _ rfl; (with_reducible repeat (first | refine blk_drewN ?_ _ | refine blk_drew ?_ | refine blk_alloc ?_ _)); refine blk_put (cs := #[.slice A304_0 ((rd_T26 l0 x3_1).f0).length c304_0, .int .i64 0, .int .i64 0]) ?_ 1 _ rfl; (with_reducible repeat (first | refine blk_drewN ?_ _ | refine blk_drew ?_ | refine blk_alloc ?_ _)); refine blk_put (cs := #[.slice none 0 0, .int .i64 0, .int .i64 0]) ?_ 0 _ rfl; (with_reducible repeat (first | refine blk_drewN ?_ _ | refine blk_drew ?_ | refine blk_alloc ?_ _)); exact BK305.out) hb); have n1_ := Aside0.mk (below_step (by repeat (first | (with_reducible first | exact HB.out | apply below_alloc | apply pw_below_drewN | apply below_drew1 | refine below_set ?_ GE305.out) | exact HB.out)) hb); clear BK305; clear HB; have BK305 := n0_; have HB := n1_; clear n0_ n1_; (try clear hb); (try clear hb2); (try clear hk); (try clear hi)))
                    repeat (go_quiet (first | (go_at_call 6; (with_reducible refine (gangwaylaw22_heavy.calls kj1 _ _ ((rd_T26 l0 x3_1).f0) ((rd_T26 l0 x3_1).f1) ((rd_T26 l0 x3_1).f2) true _ ?side1 ?side2 A10.out).mono ?_); (case side1 => exact Kd.C_below HR304_0.out (by repeat (first | (with_reducible first | exact HB.out | apply below_alloc | apply pw_below_drewN | apply below_drew1 | refine below_set ?_ GE305.out) | exact HB.out))); (case side2 => exact HC304_0.out); rintro e w13 ⟨rfl, hb⟩; have n0_ := Aside0.mk (blk_below (g := gb305) (o := .cells #[.slice A304_0 ((rd_T26 l0 x3_1).f0).length c304_0, .int .i64 ((rd_T26 l0 x3_1).f1), .int .i64 ((rd_T26 l0 x3_1).f2)] 26 (0, 0)) (by (with_reducible repeat (first | refine blk_drewN ?_ _ | refine blk_drew ?_ | refine blk_alloc ?_ _)); refine blk_put (cs := #[.slice A304_0 ((rd_T26 l0 x3_1).f0).length c304_0, .int .i64 ((rd_T26 l0 x3_1).f1), .int .i64 0]) ?_ 2 _ rfl; (with_reducible repeat (first | refine blk_drewN ?_ _ | refine blk_drew ?_ | refine blk_alloc ?_ _)); refine blk_put (cs := #[.slice A304_0 ((rd_T26 l0 x3_1).f0).length c304_0, .int .i64 0, .int .i64 0]) ?_ 1 _ rfl; (with_reducible repeat (first | refine blk_drewN ?_ _ | refine blk_drew ?_ | refine blk_alloc ?_ _)); refine blk_put (cs := #[.slice none 0 0, .int .i64 0, .int .i64 0]) ?_ 0 _ rfl; (with_reducible repeat (first | refine blk_drewN ?_ _ | refine blk_drew ?_ | refine blk_alloc ?_ _)); exact BK305.out) hb); have n1_ := Aside0.mk (below_step (by repeat (first | (with_reducible first | exact HB.out | apply below_alloc | apply pw_below_drewN | apply below_drew1 | refine below_set ?_ GE305.out) | exact HB.out)) hb); clear BK305; clear HB; have BK305 := n0_; have HB := n1_; clear n0_ n1_; (try clear hb); (try clear hb2); (try clear hk); (try clear hi))); try go_wp2_with (first | (go_at_call 6; (with_reducible refine (gangwaylaw22_heavy.calls kj1 _ _ ((rd_T26 l0 x3_1).f0) ((rd_T26 l0 x3_1).f1) ((rd_T26 l0 x3_1).f2) true _ ?side1 ?side2 A10.out).mono ?_); (case side1 => exact Kd.C_below HR304_0.out (by repeat (first | (with_reducible first | exact HB.out | apply below_alloc | apply pw_below_drewN | apply below_drew1 | refine below_set ?_ GE305.out) | exact HB.out))); (case side2 => exact HC304_0.out); rintro e w13 ⟨rfl, hb⟩; have n0_ := Aside0.mk (blk_below (g := gb305) (o := .cells #[.slice A304_0 ((rd_T26 l0 x3_1).f0).length c304_0, .int .i64 ((rd_T26 l0 x3_1).f1), .int .i64 ((rd_T26 l0 x3_1).f2)] 26 (0, 0)) (by (with_reducible repeat (first | refine blk_drewN ?_ _ | refine blk_drew ?_ | refine blk_alloc ?_ _)); refine blk_put (cs := #[.slice A304_0 ((rd_T26 l0 x3_1).f0).length c304_0, .int .i64 ((rd_T26 l0 x3_1).f1), .int .i64 0]) ?_ 2 _ rfl; (with_reducible repeat (first | refine blk_drewN ?_ _ | refine blk_drew ?_ | refine blk_alloc ?_ _)); refine blk_put (cs := #[.slice A304_0 ((rd_T26 l0 x3_1).f0).length c304_0, .int .i64 0, .int .i64 0]) ?_ 1 _ rfl; (with_reducible repeat (first | refine blk_drewN ?_ _ | refine blk_drew ?_ | refine blk_alloc ?_ _)); refine blk_put (cs := #[.slice none 0 0, .int .i64 0, .int .i64 0]) ?_ 0 _ rfl; (with_reducible repeat (first | refine blk_drewN ?_ _ | refine blk_drew ?_ | refine blk_alloc ?_ _)); exact BK305.out) hb); have n1_ := Aside0.mk (below_step (by repeat (first | (with_reducible first | exact HB.out | apply below_alloc | apply pw_below_drewN | apply below_drew1 | refine below_set ?_ GE305.out) | exact HB.out)) hb); clear BK305; clear HB; have BK305 := n0_; have HB := n1_; clear n0_ n1_; (try clear hb); (try clear hb2); (try clear hk); (try clear hi))))
                    go_meet
                    case rel => exact ⟨_, (true), (by first | rfl | (simp; done) | (simp [*]; done)), H', ⟨by have := HK1.out; have := HJ1.out; first | omega | exact Nat.le_refl _⟩, ⟨by (with_reducible repeat (first | refine blk_drewN ?_ _ | refine blk_drew ?_ | refine blk_alloc ?_ _)); exact BK305.out⟩, ⟨by repeat (first | (with_reducible first | exact HB.out | apply below_alloc | apply pw_below_drewN | apply below_drew1 | refine below_set ?_ GE305.out) | exact HB.out)⟩⟩
                  · replace c11 := Bool.eq_false_iff.mpr c11
                    subst c11
                    have H1 : ((env_Check.f kj1 ((rd_T26 l0 x3_1).f0)).bind fun t307 => ((gangwaylaw22_num.f t307).bind fun t308 => (gangwaylaw22_EnvBack.j2 kj1 l0 x3_1 (t308 != 0) ((rd_T26 l0 x3_1).f0) ((rd_T26 l0 x3_1).f1) ((rd_T26 l0 x3_1).f2)))) = some r := by rw [if_neg (show ¬ (false = true) by decide)] at H; exact H
                    clear H
                    have H := H1
                    clear H1
                    replace H := Option.bind_eq_some_iff.mp H
                    obtain ⟨t307, A140, H⟩ := H
                    replace H : ((gangwaylaw22_num.f t307).bind fun t308 => (gangwaylaw22_EnvBack.j2 kj1 l0 x3_1 (t308 != 0) ((rd_T26 l0 x3_1).f0) ((rd_T26 l0 x3_1).f1) ((rd_T26 l0 x3_1).f2))) = some r := H
                    have A14 := Aside0.mk A140
                    clear A140
                    replace H := Option.bind_eq_some_iff.mp H
                    obtain ⟨t308, A150, H⟩ := H
                    replace H : (gangwaylaw22_EnvBack.j2 kj1 l0 x3_1 (t308 != 0) ((rd_T26 l0 x3_1).f0) ((rd_T26 l0 x3_1).f1) ((rd_T26 l0 x3_1).f2)) = some r := H
                    have A15 := Aside0.mk A150
                    clear A150
                    have H' := Aside0.mk H
                    clear H
                    have hcz16_0 : w8.cell? ⟨gb305, 0, none⟩ = some (.slice none 0 0) := (blk_cell BK305.out 0).trans rfl
                    have hcz16_1 : w8.cell? ⟨gb305, 1, none⟩ = some (.int .i64 0) := (blk_cell BK305.out 1).trans rfl
                    have hcz16_2 : w8.cell? ⟨gb305, 2, none⟩ = some (.int .i64 0) := (blk_cell BK305.out 2).trans rfl
                    have hfz16_0 := blk_frozen BK305.out 0
                    have hfz16_1 := blk_frozen BK305.out 1
                    have hfz16_2 := blk_frozen BK305.out 2
                    go_wp2_with (first | (go_at_call 6; (with_reducible refine (gangwaylaw22_heavy.calls kj1 _ _ ((rd_T26 l0 x3_1).f0) ((rd_T26 l0 x3_1).f1) ((rd_T26 l0 x3_1).f2) false _ ?side1 ?side2 A10.out).mono ?_); (case side1 => exact Kd.C_below HR304_0.out (by repeat (first | (with_reducible first | exact HB.out | apply below_alloc | apply pw_below_drewN | apply below_drew1 | refine below_set ?_ GE305.out) | exact HB.out))); (case side2 => exact HC304_0.out); rintro e w17 ⟨rfl, hb⟩; have n0_ := Aside0.mk (blk_below (g := gb305) (o := .cells #[.slice A304_0 ((rd_T26 l0 x3_1).f0).length c304_0, .int .i64 ((rd_T26 l0 x3_1).f1), .int .i64 ((rd_T26 l0 x3_1).f2)] 26 (0, 0)) (by (with_reducible repeat (first | refine blk_drewN ?_ _ | refine blk_drew ?_ | refine blk_alloc ?_ _)); refine blk_put (cs := #[.slice A304_0 ((rd_T26 l0 x3_1).f0).length c304_0, .int .i64 ((rd_T26 l0 x3_1).f1), .int .i64 0]) ?_ 2 _ rfl; (with_reducible repeat (first | refine blk_drewN ?_ _ | refine blk_drew ?_ | refine blk_alloc ?_ _)); refine blk_put (cs := #[.slice A304_0 ((rd_T26 l0 x3_1).f0).length c304_0, .int .i64 0, .int .i64 0]) ?_ 1 _ rfl; (with_reducible repeat (first | refine blk_drewN ?_ _ | refine blk_drew ?_ | refine blk_alloc ?_ _)); refine blk_put (cs := #[.slice none 0 0, .int .i64 0, .int .i64 0]) ?_ 0 _ rfl; (with_reducible repeat (first | refine blk_drewN ?_ _ | refine blk_drew ?_ | refine blk_alloc ?_ _)); exact BK305.out) hb); have n1_ := Aside0.mk (below_step (by repeat (first | (with_reducible first | exact HB.out | apply below_alloc | apply pw_below_drewN | apply below_drew1 | refine below_set ?_ GE305.out) | exact HB.out)) hb); clear BK305; clear HB; have BK305 := n0_; have HB := n1_; clear n0_ n1_; (try clear hb); (try clear hb2); (try clear hk); (try clear hi); have hcz18_0 : w17.cell? ⟨gb305, 0, none⟩ = some (.slice A304_0 ((rd_T26 l0 x3_1).f0).length c304_0) := (blk_cell BK305.out 0).trans rfl; have hcz18_1 : w17.cell? ⟨gb305, 1, none⟩ = some (.int .i64 ((rd_T26 l0 x3_1).f1)) := (blk_cell BK305.out 1).trans rfl; have hcz18_2 : w17.cell? ⟨gb305, 2, none⟩ = some (.int .i64 ((rd_T26 l0 x3_1).f2)) := (blk_cell BK305.out 2).trans rfl; have hfz18_0 := blk_frozen BK305.out 0; have hfz18_1 := blk_frozen BK305.out 1; have hfz18_2 := blk_frozen BK305.out 2) | (go_at_call 14; (with_reducible refine (env_Check.calls kj1 _ _ ((rd_T26 l0 x3_1).f0) t307 _ ?side1 ?side2 A14.out).mono ?_); (case side1 => repeat (first | exact (Kd.C_below HR304_0.out HB.out) | (with_reducible refine Kd.C_alloc ?_ _) | (with_reducible refine Kd.C_drewN ?_ _) | (with_reducible refine Kd.C_drew ?_))); (case side2 => exact HC304_0.out); rintro e w' ⟨rfl, ⟨nd, rfl⟩⟩; (try first | exact ⟨rfl, _, World.drewN_drewN _ _ _⟩ | exact ⟨rfl, _, Eq.trans (World.drewN_drewN _ _ _) (congrArg (World.drewN _) (Nat.add_assoc _ _ _))⟩)) | (go_at_call 8; (with_reducible refine (gangwaylaw22_num.calls t307 t308 _ A15.out).mono ?_); rintro e w' ⟨rfl, ⟨nd, rfl⟩⟩; (try first | exact ⟨rfl, _, World.drewN_drewN _ _ _⟩ | exact ⟨rfl, _, Eq.trans (World.drewN_drewN _ _ _) (congrArg (World.drewN _) (Nat.add_assoc _ _ _))⟩)))
                    repeat (go_quiet (first | (go_at_call 6; (with_reducible refine (gangwaylaw22_heavy.calls kj1 _ _ ((rd_T26 l0 x3_1).f0) ((rd_T26 l0 x3_1).f1) ((rd_T26 l0 x3_1).f2) false _ ?side1 ?side2 A10.out).mono ?_); (case side1 => exact Kd.C_below HR304_0.out (by repeat (first | (with_reducible first | exact HB.out | apply below_alloc | apply pw_below_drewN | apply below_drew1 | refine below_set ?_ GE305.out) | exact HB.out))); (case side2 => exact HC304_0.out); rintro e w17 ⟨rfl, hb⟩; have n0_ := Aside0.mk (blk_below (g := gb305) (o := .cells #[.slice A304_0 ((rd_T26 l0 x3_1).f0).length c304_0, .int .i64 ((rd_T26 l0 x3_1).f1), .int .i64 ((rd_T26 l0 x3_1).f2)] 26 (0, 0)) (by (with_reducible repeat (first | refine blk_drewN ?_ _ | refine blk_drew ?_ | refine blk_alloc ?_ _)); refine blk_put (cs := #[.slice A304_0 ((rd_T26 l0 x3_1).f0).length c304_0, .int .i64 ((rd_T26 l0 x3_1).f1), .int .i64 0]) ?_ 2 _ rfl; (with_reducible repeat (first | refine blk_drewN ?_ _ | refine blk_drew ?_ | refine blk_alloc ?_ _)); refine blk_put (cs := #[.slice A304_0 ((rd_T26 l0 x3_1).f0).length c304_0, .int .i64 0, .int .i64 0]) ?_ 1 _ rfl; (with_reducible repeat (first | refine blk_drewN ?_ _ | refine blk_drew ?_ | refine blk_alloc ?_ _)); refine blk_put (cs := #[.slice none 0 0, .int .i64 0, .int .i64 0]) ?_ 0 _ rfl; (with_reducible repeat (first | refine blk_drewN ?_ _ | refine blk_drew ?_ | refine blk_alloc ?_ _)); exact BK305.out) hb); have n1_ := Aside0.mk (below_step (by repeat (first | (with_reducible first | exact HB.out | apply below_alloc | apply pw_below_drewN | apply below_drew1 | refine below_set ?_ GE305.out) | exact HB.out)) hb); clear BK305; clear HB; have BK305 := n0_; have HB := n1_; clear n0_ n1_; (try clear hb); (try clear hb2); (try clear hk); (try clear hi); have hcz18_0 : w17.cell? ⟨gb305, 0, none⟩ = some (.slice A304_0 ((rd_T26 l0 x3_1).f0).length c304_0) := (blk_cell BK305.out 0).trans rfl; have hcz18_1 : w17.cell? ⟨gb305, 1, none⟩ = some (.int .i64 ((rd_T26 l0 x3_1).f1)) := (blk_cell BK305.out 1).trans rfl; have hcz18_2 : w17.cell? ⟨gb305, 2, none⟩ = some (.int .i64 ((rd_T26 l0 x3_1).f2)) := (blk_cell BK305.out 2).trans rfl; have hfz18_0 := blk_frozen BK305.out 0; have hfz18_1 := blk_frozen BK305.out 1; have hfz18_2 := blk_frozen BK305.out 2) | (go_at_call 14; (with_reducible refine (env_Check.calls kj1 _ _ ((rd_T26 l0 x3_1).f0) t307 _ ?side1 ?side2 A14.out).mono ?_); (case side1 => repeat (first | exact (Kd.C_below HR304_0.out HB.out) | (with_reducible refine Kd.C_alloc ?_ _) | (with_reducible refine Kd.C_drewN ?_ _) | (with_reducible refine Kd.C_drew ?_))); (case side2 => exact HC304_0.out); rintro e w' ⟨rfl, ⟨nd, rfl⟩⟩; (try first | exact ⟨rfl, _, World.drewN_drewN _ _ _⟩ | exact ⟨rfl, _, Eq.trans (World.drewN_drewN _ _ _) (congrArg (World.drewN _) (Nat.add_assoc _ _ _))⟩)) | (go_at_call 8; (with_reducible refine (gangwaylaw22_num.calls t307 t308 _ A15.out).mono ?_); rintro e w' ⟨rfl, ⟨nd, rfl⟩⟩; (try first | exact ⟨rfl, _, World.drewN_drewN _ _ _⟩ | exact ⟨rfl, _, Eq.trans (World.drewN_drewN _ _ _) (congrArg (World.drewN _) (Nat.add_assoc _ _ _))⟩))); try go_wp2_with (first | (go_at_call 6; (with_reducible refine (gangwaylaw22_heavy.calls kj1 _ _ ((rd_T26 l0 x3_1).f0) ((rd_T26 l0 x3_1).f1) ((rd_T26 l0 x3_1).f2) false _ ?side1 ?side2 A10.out).mono ?_); (case side1 => exact Kd.C_below HR304_0.out (by repeat (first | (with_reducible first | exact HB.out | apply below_alloc | apply pw_below_drewN | apply below_drew1 | refine below_set ?_ GE305.out) | exact HB.out))); (case side2 => exact HC304_0.out); rintro e w17 ⟨rfl, hb⟩; have n0_ := Aside0.mk (blk_below (g := gb305) (o := .cells #[.slice A304_0 ((rd_T26 l0 x3_1).f0).length c304_0, .int .i64 ((rd_T26 l0 x3_1).f1), .int .i64 ((rd_T26 l0 x3_1).f2)] 26 (0, 0)) (by (with_reducible repeat (first | refine blk_drewN ?_ _ | refine blk_drew ?_ | refine blk_alloc ?_ _)); refine blk_put (cs := #[.slice A304_0 ((rd_T26 l0 x3_1).f0).length c304_0, .int .i64 ((rd_T26 l0 x3_1).f1), .int .i64 0]) ?_ 2 _ rfl; (with_reducible repeat (first | refine blk_drewN ?_ _ | refine blk_drew ?_ | refine blk_alloc ?_ _)); refine blk_put (cs := #[.slice A304_0 ((rd_T26 l0 x3_1).f0).length c304_0, .int .i64 0, .int .i64 0]) ?_ 1 _ rfl; (with_reducible repeat (first | refine blk_drewN ?_ _ | refine blk_drew ?_ | refine blk_alloc ?_ _)); refine blk_put (cs := #[.slice none 0 0, .int .i64 0, .int .i64 0]) ?_ 0 _ rfl; (with_reducible repeat (first | refine blk_drewN ?_ _ | refine blk_drew ?_ | refine blk_alloc ?_ _)); exact BK305.out) hb); have n1_ := Aside0.mk (below_step (by repeat (first | (with_reducible first | exact HB.out | apply below_alloc | apply pw_below_drewN | apply below_drew1 | refine below_set ?_ GE305.out) | exact HB.out)) hb); clear BK305; clear HB; have BK305 := n0_; have HB := n1_; clear n0_ n1_; (try clear hb); (try clear hb2); (try clear hk); (try clear hi); have hcz18_0 : w17.cell? ⟨gb305, 0, none⟩ = some (.slice A304_0 ((rd_T26 l0 x3_1).f0).length c304_0) := (blk_cell BK305.out 0).trans rfl; have hcz18_1 : w17.cell? ⟨gb305, 1, none⟩ = some (.int .i64 ((rd_T26 l0 x3_1).f1)) := (blk_cell BK305.out 1).trans rfl; have hcz18_2 : w17.cell? ⟨gb305, 2, none⟩ = some (.int .i64 ((rd_T26 l0 x3_1).f2)) := (blk_cell BK305.out 2).trans rfl; have hfz18_0 := blk_frozen BK305.out 0; have hfz18_1 := blk_frozen BK305.out 1; have hfz18_2 := blk_frozen BK305.out 2) | (go_at_call 14; (with_reducible refine (env_Check.calls kj1 _ _ ((rd_T26 l0 x3_1).f0) t307 _ ?side1 ?side2 A14.out).mono ?_); (case side1 => repeat (first | exact (Kd.C_below HR304_0.out HB.out) | (with_reducible refine Kd.C_alloc ?_ _) | (with_reducible refine Kd.C_drewN ?_ _) | (with_reducible refine Kd.C_drew ?_))); (case side2 => exact HC304_0.out); rintro e w' ⟨rfl, ⟨nd, rfl⟩⟩; (try first | exact ⟨rfl, _, World.drewN_drewN _ _ _⟩ | exact ⟨rfl, _, Eq.trans (World.drewN_drewN _ _ _) (congrArg (World.drewN _) (Nat.add_assoc _ _ _))⟩)) | (go_at_call 8; (with_reducible refine (gangwaylaw22_num.calls t307 t308 _ A15.out).mono ?_); rintro e w' ⟨rfl, ⟨nd, rfl⟩⟩; (try first | exact ⟨rfl, _, World.drewN_drewN _ _ _⟩ | exact ⟨rfl, _, Eq.trans (World.drewN_drewN _ _ _) (congrArg (World.drewN _) (Nat.add_assoc _ _ _))⟩))))
                    go_meet
                    case rel => exact ⟨_, ((t308 != 0)), (by first | rfl | (simp; done) | (simp [*]; done)), H', ⟨by have := HK1.out; have := HJ1.out; first | omega | exact Nat.le_refl _⟩, ⟨by (with_reducible repeat (first | refine blk_drewN ?_ _ | refine blk_drew ?_ | refine blk_alloc ?_ _)); exact BK305.out⟩, ⟨by repeat (first | (with_reducible first | exact HB.out | apply below_alloc | apply pw_below_drewN | apply below_drew1 | refine below_set ?_ GE305.out) | exact HB.out)⟩⟩
                case rest =>
                  clear HC7
                  try clear c1
                  try clear p2
                  try clear c3
                  try clear c3b0
                  try clear p3
                  try clear q3
                  try clear hx3
                  try clear c4
                  try clear c5
                  try clear c5b0
                  try clear c6
                  try clear c6b0
                  try clear c11
                  try clear hcz12_0
                  try clear hcz12_1
                  try clear hcz12_2
                  try clear hcz16_0
                  try clear hcz16_1
                  try clear hcz16_2
                  try clear hcz18_0
                  try clear hcz18_1
                  try clear hcz18_2
                  try clear hcz9_0
                  try clear hcz9_1
                  try clear hcz9_2
                  try clear hfz12_0
                  try clear hfz12_1
                  try clear hfz12_2
                  try clear hfz16_0
                  try clear hfz16_1
                  try clear hfz16_2
                  try clear hfz18_0
                  try clear hfz18_1
                  try clear hfz18_2
                  try clear hfz9_0
                  try clear hfz9_1
                  try clear hfz9_2
                  try clear hx304_0
                  try clear hx304_1
                  try clear hx304_2
                  try clear p2
                  try clear p304
                  try clear q304
                  obtain ⟨kq, x34_6, rfl, HA, HJ6, BK305, HB⟩ := hcut
                  cases kq with
                  | zero => exact absurd HA.out (by simp [gangwaylaw22_EnvBack.j2])
                  | succ kj6 =>
                    have H := HA.out
                    clear HA
                    simp only [gangwaylaw22_EnvBack.j2] at H
                    by_cases c19 : x34_6 = true
                    · subst c19
                      have H1 : (gangwaylaw22_EnvBack.l0 kj6 l0 (wrap64 (x3_1 + 1))) = some r := by rw [if_pos rfl] at H; exact H
                      clear H
                      have H := H1
                      clear H1
                      have H' := Aside0.mk H
                      clear H
                      go_wp2
                      repeat (go_quiet (fail); try go_wp2)
                      go_roundg kj6
                      case measure => have := HK1.out; have := HJ1.out; have := HJ6.out; omega
                      case rel => exact ⟨(wrap64 (x3_1 + 1)), (by first | rfl | (simp; done) | (simp [*]; done)), H', ⟨by have := HK1.out; have := HJ1.out; have := HJ6.out; omega⟩, ⟨by repeat (first | (with_reducible first | exact HB.out | apply below_alloc | apply pw_below_drewN | apply below_drew1 | refine below_set ?_ GE305.out) | exact HB.out)⟩⟩
                    · replace c19 := Bool.eq_false_iff.mpr c19
                      subst c19
                      have H1 : ((gangwaylaw19_Both.f kj6 ([] : List Int)).bind fun bt309 => (if bt309.1 = true then (if bt309.2.2.2.1 = true then ((env_Lay.f kj6 bt309.2.1 bt309.2.2.1 ((rd_T26 l0 x3_1).f0) 64 1024).bind fun bt321 => ((gangwaylaw22_num.f bt321.1).bind fun t326 => (if t326 = 0 then (gangwaylaw22_EnvBack.l1 kj6 l0 x3_1 0 ((rd_T26 l0 x3_1).f0) ((rd_T26 l0 x3_1).f1) ((rd_T26 l0 x3_1).f2) bt321.2.1 bt321.2.2) else (none)))) else (none)) else (none))) = some r := by rw [if_neg (show ¬ (false = true) by decide)] at H; exact H
                      clear H
                      have H := H1
                      clear H1
                      replace H := Option.bind_eq_some_iff.mp H
                      obtain ⟨⟨t309, t310, t313, t315, t316, t319⟩, A200, H⟩ := H
                      replace H : (if t309 = true then (if t315 = true then ((env_Lay.f kj6 t310 t313 ((rd_T26 l0 x3_1).f0) 64 1024).bind fun bt321 => ((gangwaylaw22_num.f bt321.1).bind fun t326 => (if t326 = 0 then (gangwaylaw22_EnvBack.l1 kj6 l0 x3_1 0 ((rd_T26 l0 x3_1).f0) ((rd_T26 l0 x3_1).f1) ((rd_T26 l0 x3_1).f2) bt321.2.1 bt321.2.2) else (none)))) else (none)) else (none)) = some r := H
                      have A20 := Aside0.mk A200
                      clear A200
                      by_cases c21 : t309 = true
                      · subst c21
                        have H1 : (if t315 = true then ((env_Lay.f kj6 t310 t313 ((rd_T26 l0 x3_1).f0) 64 1024).bind fun bt321 => ((gangwaylaw22_num.f bt321.1).bind fun t326 => (if t326 = 0 then (gangwaylaw22_EnvBack.l1 kj6 l0 x3_1 0 ((rd_T26 l0 x3_1).f0) ((rd_T26 l0 x3_1).f1) ((rd_T26 l0 x3_1).f2) bt321.2.1 bt321.2.2) else (none)))) else (none)) = some r := by rw [if_pos rfl] at H; exact H
                        clear H
                        have H := H1
                        clear H1
                        by_cases c22 : t315 = true
                        · subst c22
                          have H1 : ((env_Lay.f kj6 t310 t313 ((rd_T26 l0 x3_1).f0) 64 1024).bind fun bt321 => ((gangwaylaw22_num.f bt321.1).bind fun t326 => (if t326 = 0 then (gangwaylaw22_EnvBack.l1 kj6 l0 x3_1 0 ((rd_T26 l0 x3_1).f0) ((rd_T26 l0 x3_1).f1) ((rd_T26 l0 x3_1).f2) bt321.2.1 bt321.2.2) else (none)))) = some r := by rw [if_pos rfl] at H; exact H
                          clear H
                          have H := H1
                          clear H1
                          replace H := Option.bind_eq_some_iff.mp H
                          obtain ⟨⟨t321, t322, t325⟩, A230, H⟩ := H
                          replace H : ((gangwaylaw22_num.f t321).bind fun t326 => (if t326 = 0 then (gangwaylaw22_EnvBack.l1 kj6 l0 x3_1 0 ((rd_T26 l0 x3_1).f0) ((rd_T26 l0 x3_1).f1) ((rd_T26 l0 x3_1).f2) t322 t325) else (none))) = some r := H
                          have A23 := Aside0.mk A230
                          clear A230
                          replace H := Option.bind_eq_some_iff.mp H
                          obtain ⟨t326, A240, H⟩ := H
                          replace H : (if t326 = 0 then (gangwaylaw22_EnvBack.l1 kj6 l0 x3_1 0 ((rd_T26 l0 x3_1).f0) ((rd_T26 l0 x3_1).f1) ((rd_T26 l0 x3_1).f2) t322 t325) else (none)) = some r := H
                          have A24 := Aside0.mk A240
                          clear A240
                          by_cases c25 : t326 = 0
                          · rw [if_pos c25] at H
                            have c25b0 : (t326 == 0) = true := beq_iff_eq.mpr c25
                            have c25b1 : (t326 != 0) = false := bne_eq_false_iff_eq.mpr c25
                            clear c25
                            have H' := Aside0.mk H
                            clear H
                            go_wp2_with (first | (go_at_call 15; (refine (gangwaylaw19_Both.calls kj6 _ _ ([] : List Int) true t310 t313 true t316 t319 _ ?side1 ?side2 A20.out).mono ?_); (case side1 => exact Kd.C_nil _ _); (case side2 => exact Nat.le_refl _); rintro e w26 ⟨v311, v317, pz314, pz320, rfl, ho0, ho1, hz314, hz320, hb⟩; have n0_ := Aside0.mk (Kd.R_lower ho0 (below_size (by repeat (first | (with_reducible first | exact HB.out | apply below_alloc | apply pw_below_drewN | apply below_drew1 | refine below_set ?_ GE305.out) | exact HB.out)))); have n1_ := Aside0.mk (Kd.R_lower ho1 (below_size (by repeat (first | (with_reducible first | exact HB.out | apply below_alloc | apply pw_below_drewN | apply below_drew1 | refine below_set ?_ GE305.out) | exact HB.out)))); have n2_ := Aside0.mk (blk_below (g := gb305) (o := .cells #[.slice A304_0 ((rd_T26 l0 x3_1).f0).length c304_0, .int .i64 ((rd_T26 l0 x3_1).f1), .int .i64 ((rd_T26 l0 x3_1).f2)] 26 (0, 0)) (by (with_reducible repeat (first | refine blk_drewN ?_ _ | refine blk_drew ?_ | refine blk_alloc ?_ _)); exact BK305.out) hb); have n3_ := Aside0.mk ((show (true = true → ∃ g_ : Nat, pz314 = .pointer (some ⟨g_, 0, none⟩) ∧ IsS72 w w26 g_ v311 t313 ∧ gb305 ≠ g_) ∧ (true = false → pz314 = .pointer none) from ⟨fun h_ => (hz314.1 h_).elim fun g_ hg_ => ⟨g_, hg_.1, hg_.2.lower ((below_size (by repeat (first | (with_reducible first | exact HB.out | apply below_alloc | apply pw_below_drewN | apply below_drew1 | refine below_set ?_ GE305.out) | exact HB.out)))), Nat.ne_of_lt (Nat.lt_of_lt_of_le (blk_lt (g := gb305) (o := .cells #[.slice A304_0 ((rd_T26 l0 x3_1).f0).length c304_0, .int .i64 ((rd_T26 l0 x3_1).f1), .int .i64 ((rd_T26 l0 x3_1).f2)] 26 (0, 0)) (by (with_reducible repeat (first | refine blk_drewN ?_ _ | refine blk_drew ?_ | refine blk_alloc ?_ _)); exact BK305.out)) hg_.2.ge)⟩, hz314.2⟩)); have n4_ := Aside0.mk ((show (true = true → ∃ g_ : Nat, pz320 = .pointer (some ⟨g_, 0, none⟩) ∧ IsS59 w w26 g_ v317 t319 ∧ gb305 ≠ g_) ∧ (true = false → pz320 = .pointer none) from ⟨fun h_ => (hz320.1 h_).elim fun g_ hg_ => ⟨g_, hg_.1, hg_.2.lower ((below_size (by repeat (first | (with_reducible first | exact HB.out | apply below_alloc | apply pw_below_drewN | apply below_drew1 | refine below_set ?_ GE305.out) | exact HB.out)))), Nat.ne_of_lt (Nat.lt_of_lt_of_le (blk_lt (g := gb305) (o := .cells #[.slice A304_0 ((rd_T26 l0 x3_1).f0).length c304_0, .int .i64 ((rd_T26 l0 x3_1).f1), .int .i64 ((rd_T26 l0 x3_1).f2)] 26 (0, 0)) (by (with_reducible repeat (first | refine blk_drewN ?_ _ | refine blk_drew ?_ | refine blk_alloc ?_ _)); exact BK305.out)) hg_.2.ge)⟩, hz320.2⟩)); have n5_ := Aside0.mk (below_step (by repeat (first | (with_reducible first | exact HB.out | apply below_alloc | apply pw_below_drewN | apply below_drew1 | refine below_set ?_ GE305.out) | exact HB.out)) hb); clear BK305; clear HB; have HO312 := n0_; have HO318 := n1_; have BK305 := n2_; have HZ314 := n3_; have HZ320 := n4_; have HB := n5_; clear n0_ n1_ n2_ n3_ n4_ n5_; (try clear hb); (try clear hb2); (try clear hk); (try clear hi); (try clear ho0); (try clear ho1); obtain ⟨g314, e_, hi_, hn0_⟩ := HZ314.out.1 rfl; subst e_; have HI314 := Aside0.mk hi_; clear hi_ HZ314; have NB305_314 := Aside0.mk hn0_; have NB314_305 := Aside0.mk (Ne.symm hn0_); clear hn0_; obtain ⟨g320, e_, hi_, hn0_⟩ := HZ320.out.1 rfl; subst e_; have HI320 := Aside0.mk hi_; clear hi_ HZ320; have NB305_320 := Aside0.mk hn0_; have NB320_305 := Aside0.mk (Ne.symm hn0_); clear hn0_; have NB314_320 := Aside0.mk (IsS72.ne_blk HI314.out HI320.out.1 (by decide)); have NB320_314 := Aside0.mk (Ne.symm NB314_320.out); have hnb27 := NB305_314.out; have hnc27 := NB314_305.out; have hnb28 := NB305_320.out; have hnc28 := NB320_305.out; have hcz29_0 : w26.cell? ⟨gb305, 0, none⟩ = some (.slice A304_0 ((rd_T26 l0 x3_1).f0).length c304_0) := (blk_cell BK305.out 0).trans rfl; have hcz29_1 : w26.cell? ⟨gb305, 1, none⟩ = some (.int .i64 ((rd_T26 l0 x3_1).f1)) := (blk_cell BK305.out 1).trans rfl; have hcz29_2 : w26.cell? ⟨gb305, 2, none⟩ = some (.int .i64 ((rd_T26 l0 x3_1).f2)) := (blk_cell BK305.out 2).trans rfl; have hfz29_0 := blk_frozen BK305.out 0; have hfz29_1 := blk_frozen BK305.out 1; have hfz29_2 := blk_frozen BK305.out 2) | (go_at_call 17; (with_reducible refine (env_Lay.calls kj6 g314 (fun k_ => some k_ = (v311 : Value).ownBlock) v311 t310 t313 _ _ ((rd_T26 l0 x3_1).f0) 64 1024 t321 t322 t325 w _ ?side1 ?side2 ?side3 ?side4 ?side5 A23.out).mono ?_); (case side1 => repeat (first | (with_reducible first | exact HI314.out | apply IsS72.alloc | apply IsS72.drewN | apply IsS72.drew | apply IsS72.set_0 | apply IsS72.set_1 | refine IsS72.far ?_ NB314_305.out _) | exact HI314.out)); (case side2 => repeat (first | (with_reducible first | exact HB.out | apply below_alloc | apply pw_below_drewN | apply below_drew1 | refine below_set ?_ (IsS72.ge HI314.out) | refine below_set ?_ (IsS59.ge HI320.out) | refine below_set ?_ GE305.out) | exact HB.out)); (case side3 => exact Kd.R_tight rfl HO312.out); (case side4 => exact Kd.C_kept_came Kd.heap_string HR304_0.out (by repeat (first | (with_reducible first | exact HB.out | apply below_alloc | apply pw_below_drewN | apply below_drew1 | refine below_set ?_ (IsS72.ge HI314.out) | refine below_set ?_ (IsS59.ge HI320.out) | refine below_set ?_ GE305.out) | exact HB.out)) (fun k_ hs_ => Or.elim hs_ (fun hs_ => (fun e_ => Kd.R_base HO312.out k_ e_.symm) hs_) (fun e_ => (by rw [e_]; exact IsS72.ge HI314.out)))); (case side5 => exact HC304_0.out); rintro e w30 ⟨v323, rfl, ho0, hi, hb, hkp⟩; have n0_ := Aside0.mk (blk_kept (o := .cells #[.slice A304_0 ((rd_T26 l0 x3_1).f0).length c304_0, .int .i64 ((rd_T26 l0 x3_1).f1), .int .i64 ((rd_T26 l0 x3_1).f2)] 26 (0, 0)) (by (with_reducible repeat (first | refine blk_drewN ?_ _ | refine blk_drew ?_ | refine blk_alloc ?_ _)); exact BK305.out) hkp (fun hs_ => Or.elim hs_ (fun hs_ => (fun e_ => (Kd.R_ne HO312.out BK305.out (by decide)) e_) hs_) (fun e_ => NB305_314.out e_))); have n1_ := Aside0.mk (Kd.R_mono (ok' := fun k_ => some k_ ≠ (v323 : Value).ownBlock) (Kd.R_keptB ((IsS72.apart HI314.out HO318.out (by decide))) hkp (fun k_ hk_ hs_ => Or.elim hs_ (fun hs_ => (hk_.1) hs_) (fun e_ => (hk_.2) e_))) (fun k_ hk_ => fun e_ => Or.elim (ho0.1 k_ e_.symm) (fun hs_ => hk_.2.1 (.inl hs_)) (fun hn_ => Nat.not_le.2 hk_.2.2 hn_))); have n2_ := Aside0.mk (hi); have n3_ := Aside0.mk (IsS59.kept (by repeat (first | (with_reducible first | exact HI320.out | apply IsS59.alloc | apply IsS59.drewN | apply IsS59.drew | apply IsS59.set_0 | apply IsS59.set_1 | refine IsS59.far ?_ NB320_305.out _) | exact HI320.out)) hkp (fun hs_ => Or.elim hs_ (fun hs_ => (fun e_ => (IsS59.own_ne HI320.out HO312.out (by decide)) e_) hs_) (fun e_ => NB320_314.out e_))); have n4_ := Aside0.mk (Kd.R_mono (ok' := fun k_ => some k_ ≠ (v317 : Value).ownBlock) ho0 (fun k_ hk_ => Or.elim hk_ (fun hs_ => fun e_ => ((((IsS72.apart HI314.out HO318.out (by decide))).1 k_ e_.symm).1) hs_) (fun hn_ => (Kd.fresh' (Kd.R_lt (by (with_reducible repeat (first | apply Kd.R_alloc | apply Kd.R_drewN | apply Kd.R_drew)); exact HO318.out)) k_ hn_)))); have n5_ := Aside0.mk (hb); clear BK305; clear HO318; clear HI314; clear HI320; clear HB; clear HO312; have BK305 := n0_; have HO318 := n1_; have HI314 := n2_; have HI320 := n3_; have HO324 := n4_; have HB := n5_; clear n0_ n1_ n2_ n3_ n4_ n5_; (try clear hb); (try clear hkp); (try clear ho0)) | (go_at_call 8; (with_reducible refine (gangwaylaw22_num.calls t321 t326 _ A24.out).mono ?_); rintro e w' ⟨rfl, ⟨nd, rfl⟩⟩; (try first | exact ⟨rfl, _, World.drewN_drewN _ _ _⟩ | exact ⟨rfl, _, Eq.trans (World.drewN_drewN _ _ _) (congrArg (World.drewN _) (Nat.add_assoc _ _ _))⟩)))
                            repeat (go_quiet (first | (go_at_call 15; (refine (gangwaylaw19_Both.calls kj6 _ _ ([] : List Int) true t310 t313 true t316 t319 _ ?side1 ?side2 A20.out).mono ?_); (case side1 => exact Kd.C_nil _ _); (case side2 => exact Nat.le_refl _); rintro e w26 ⟨v311, v317, pz314, pz320, rfl, ho0, ho1, hz314, hz320, hb⟩; have n0_ := Aside0.mk (Kd.R_lower ho0 (below_size (by repeat (first | (with_reducible first | exact HB.out | apply below_alloc | apply pw_below_drewN | apply below_drew1 | refine below_set ?_ GE305.out) | exact HB.out)))); have n1_ := Aside0.mk (Kd.R_lower ho1 (below_size (by repeat (first | (with_reducible first | exact HB.out | apply below_alloc | apply pw_below_drewN | apply below_drew1 | refine below_set ?_ GE305.out) | exact HB.out)))); have n2_ := Aside0.mk (blk_below (g := gb305) (o := .cells #[.slice A304_0 ((rd_T26 l0 x3_1).f0).length c304_0, .int .i64 ((rd_T26 l0 x3_1).f1), .int .i64 ((rd_T26 l0 x3_1).f2)] 26 (0, 0)) (by (with_reducible repeat (first | refine blk_drewN ?_ _ | refine blk_drew ?_ | refine blk_alloc ?_ _)); exact BK305.out) hb); have n3_ := Aside0.mk ((show (true = true → ∃ g_ : Nat, pz314 = .pointer (some ⟨g_, 0, none⟩) ∧ IsS72 w w26 g_ v311 t313 ∧ gb305 ≠ g_) ∧ (true = false → pz314 = .pointer none) from ⟨fun h_ => (hz314.1 h_).elim fun g_ hg_ => ⟨g_, hg_.1, hg_.2.lower ((below_size (by repeat (first | (with_reducible first | exact HB.out | apply below_alloc | apply pw_below_drewN | apply below_drew1 | refine below_set ?_ GE305.out) | exact HB.out)))), Nat.ne_of_lt (Nat.lt_of_lt_of_le (blk_lt (g := gb305) (o := .cells #[.slice A304_0 ((rd_T26 l0 x3_1).f0).length c304_0, .int .i64 ((rd_T26 l0 x3_1).f1), .int .i64 ((rd_T26 l0 x3_1).f2)] 26 (0, 0)) (by (with_reducible repeat (first | refine blk_drewN ?_ _ | refine blk_drew ?_ | refine blk_alloc ?_ _)); exact BK305.out)) hg_.2.ge)⟩, hz314.2⟩)); have n4_ := Aside0.mk ((show (true = true → ∃ g_ : Nat, pz320 = .pointer (some ⟨g_, 0, none⟩) ∧ IsS59 w w26 g_ v317 t319 ∧ gb305 ≠ g_) ∧ (true = false → pz320 = .pointer none) from ⟨fun h_ => (hz320.1 h_).elim fun g_ hg_ => ⟨g_, hg_.1, hg_.2.lower ((below_size (by repeat (first | (with_reducible first | exact HB.out | apply below_alloc | apply pw_below_drewN | apply below_drew1 | refine below_set ?_ GE305.out) | exact HB.out)))), Nat.ne_of_lt (Nat.lt_of_lt_of_le (blk_lt (g := gb305) (o := .cells #[.slice A304_0 ((rd_T26 l0 x3_1).f0).length c304_0, .int .i64 ((rd_T26 l0 x3_1).f1), .int .i64 ((rd_T26 l0 x3_1).f2)] 26 (0, 0)) (by (with_reducible repeat (first | refine blk_drewN ?_ _ | refine blk_drew ?_ | refine blk_alloc ?_ _)); exact BK305.out)) hg_.2.ge)⟩, hz320.2⟩)); have n5_ := Aside0.mk (below_step (by repeat (first | (with_reducible first | exact HB.out | apply below_alloc | apply pw_below_drewN | apply below_drew1 | refine below_set ?_ GE305.out) | exact HB.out)) hb); clear BK305; clear HB; have HO312 := n0_; have HO318 := n1_; have BK305 := n2_; have HZ314 := n3_; have HZ320 := n4_; have HB := n5_; clear n0_ n1_ n2_ n3_ n4_ n5_; (try clear hb); (try clear hb2); (try clear hk); (try clear hi); (try clear ho0); (try clear ho1); obtain ⟨g314, e_, hi_, hn0_⟩ := HZ314.out.1 rfl; subst e_; have HI314 := Aside0.mk hi_; clear hi_ HZ314; have NB305_314 := Aside0.mk hn0_; have NB314_305 := Aside0.mk (Ne.symm hn0_); clear hn0_; obtain ⟨g320, e_, hi_, hn0_⟩ := HZ320.out.1 rfl; subst e_; have HI320 := Aside0.mk hi_; clear hi_ HZ320; have NB305_320 := Aside0.mk hn0_; have NB320_305 := Aside0.mk (Ne.symm hn0_); clear hn0_; have NB314_320 := Aside0.mk (IsS72.ne_blk HI314.out HI320.out.1 (by decide)); have NB320_314 := Aside0.mk (Ne.symm NB314_320.out); have hnb27 := NB305_314.out; have hnc27 := NB314_305.out; have hnb28 := NB305_320.out; have hnc28 := NB320_305.out; have hcz29_0 : w26.cell? ⟨gb305, 0, none⟩ = some (.slice A304_0 ((rd_T26 l0 x3_1).f0).length c304_0) := (blk_cell BK305.out 0).trans rfl; have hcz29_1 : w26.cell? ⟨gb305, 1, none⟩ = some (.int .i64 ((rd_T26 l0 x3_1).f1)) := (blk_cell BK305.out 1).trans rfl; have hcz29_2 : w26.cell? ⟨gb305, 2, none⟩ = some (.int .i64 ((rd_T26 l0 x3_1).f2)) := (blk_cell BK305.out 2).trans rfl; have hfz29_0 := blk_frozen BK305.out 0; have hfz29_1 := blk_frozen BK305.out 1; have hfz29_2 := blk_frozen BK305.out 2) | (go_at_call 17; (with_reducible refine (env_Lay.calls kj6 g314 (fun k_ => some k_ = (v311 : Value).ownBlock) v311 t310 t313 _ _ ((rd_T26 l0 x3_1).f0) 64 1024 t321 t322 t325 w _ ?side1 ?side2 ?side3 ?side4 ?side5 A23.out).mono ?_); (case side1 => repeat (first | (with_reducible first | exact HI314.out | apply IsS72.alloc | apply IsS72.drewN | apply IsS72.drew | apply IsS72.set_0 | apply IsS72.set_1 | refine IsS72.far ?_ NB314_305.out _) | exact HI314.out)); (case side2 => repeat (first | (with_reducible first | exact HB.out | apply below_alloc | apply pw_below_drewN | apply below_drew1 | refine below_set ?_ (IsS72.ge HI314.out) | refine below_set ?_ (IsS59.ge HI320.out) | refine below_set ?_ GE305.out) | exact HB.out)); (case side3 => exact Kd.R_tight rfl HO312.out); (case side4 => exact Kd.C_kept_came Kd.heap_string HR304_0.out (by repeat (first | (with_reducible first | exact HB.out | apply below_alloc | apply pw_below_drewN | apply below_drew1 | refine below_set ?_ (IsS72.ge HI314.out) | refine below_set ?_ (IsS59.ge HI320.out) | refine below_set ?_ GE305.out) | exact HB.out)) (fun k_ hs_ => Or.elim hs_ (fun hs_ => (fun e_ => Kd.R_base HO312.out k_ e_.symm) hs_) (fun e_ => (by rw [e_]; exact IsS72.ge HI314.out)))); (case side5 => exact HC304_0.out); rintro e w30 ⟨v323, rfl, ho0, hi, hb, hkp⟩; have n0_ := Aside0.mk (blk_kept (o := .cells #[.slice A304_0 ((rd_T26 l0 x3_1).f0).length c304_0, .int .i64 ((rd_T26 l0 x3_1).f1), .int .i64 ((rd_T26 l0 x3_1).f2)] 26 (0, 0)) (by (with_reducible repeat (first | refine blk_drewN ?_ _ | refine blk_drew ?_ | refine blk_alloc ?_ _)); exact BK305.out) hkp (fun hs_ => Or.elim hs_ (fun hs_ => (fun e_ => (Kd.R_ne HO312.out BK305.out (by decide)) e_) hs_) (fun e_ => NB305_314.out e_))); have n1_ := Aside0.mk (Kd.R_mono (ok' := fun k_ => some k_ ≠ (v323 : Value).ownBlock) (Kd.R_keptB ((IsS72.apart HI314.out HO318.out (by decide))) hkp (fun k_ hk_ hs_ => Or.elim hs_ (fun hs_ => (hk_.1) hs_) (fun e_ => (hk_.2) e_))) (fun k_ hk_ => fun e_ => Or.elim (ho0.1 k_ e_.symm) (fun hs_ => hk_.2.1 (.inl hs_)) (fun hn_ => Nat.not_le.2 hk_.2.2 hn_))); have n2_ := Aside0.mk (hi); have n3_ := Aside0.mk (IsS59.kept (by repeat (first | (with_reducible first | exact HI320.out | apply IsS59.alloc | apply IsS59.drewN | apply IsS59.drew | apply IsS59.set_0 | apply IsS59.set_1 | refine IsS59.far ?_ NB320_305.out _) | exact HI320.out)) hkp (fun hs_ => Or.elim hs_ (fun hs_ => (fun e_ => (IsS59.own_ne HI320.out HO312.out (by decide)) e_) hs_) (fun e_ => NB320_314.out e_))); have n4_ := Aside0.mk (Kd.R_mono (ok' := fun k_ => some k_ ≠ (v317 : Value).ownBlock) ho0 (fun k_ hk_ => Or.elim hk_ (fun hs_ => fun e_ => ((((IsS72.apart HI314.out HO318.out (by decide))).1 k_ e_.symm).1) hs_) (fun hn_ => (Kd.fresh' (Kd.R_lt (by (with_reducible repeat (first | apply Kd.R_alloc | apply Kd.R_drewN | apply Kd.R_drew)); exact HO318.out)) k_ hn_)))); have n5_ := Aside0.mk (hb); clear BK305; clear HO318; clear HI314; clear HI320; clear HB; clear HO312; have BK305 := n0_; have HO318 := n1_; have HI314 := n2_; have HI320 := n3_; have HO324 := n4_; have HB := n5_; clear n0_ n1_ n2_ n3_ n4_ n5_; (try clear hb); (try clear hkp); (try clear ho0)) | (go_at_call 8; (with_reducible refine (gangwaylaw22_num.calls t321 t326 _ A24.out).mono ?_); rintro e w' ⟨rfl, ⟨nd, rfl⟩⟩; (try first | exact ⟨rfl, _, World.drewN_drewN _ _ _⟩ | exact ⟨rfl, _, Eq.trans (World.drewN_drewN _ _ _) (congrArg (World.drewN _) (Nat.add_assoc _ _ _))⟩))); try go_wp2_with (first | (go_at_call 15; (refine (gangwaylaw19_Both.calls kj6 _ _ ([] : List Int) true t310 t313 true t316 t319 _ ?side1 ?side2 A20.out).mono ?_); (case side1 => exact Kd.C_nil _ _); (case side2 => exact Nat.le_refl _); rintro e w26 ⟨v311, v317, pz314, pz320, rfl, ho0, ho1, hz314, hz320, hb⟩; have n0_ := Aside0.mk (Kd.R_lower ho0 (below_size (by repeat (first | (with_reducible first | exact HB.out | apply below_alloc | apply pw_below_drewN | apply below_drew1 | refine below_set ?_ GE305.out) | exact HB.out)))); have n1_ := Aside0.mk (Kd.R_lower ho1 (below_size (by repeat (first | (with_reducible first | exact HB.out | apply below_alloc | apply pw_below_drewN | apply below_drew1 | refine below_set ?_ GE305.out) | exact HB.out)))); have n2_ := Aside0.mk (blk_below (g := gb305) (o := .cells #[.slice A304_0 ((rd_T26 l0 x3_1).f0).length c304_0, .int .i64 ((rd_T26 l0 x3_1).f1), .int .i64 ((rd_T26 l0 x3_1).f2)] 26 (0, 0)) (by (with_reducible repeat (first | refine blk_drewN ?_ _ | refine blk_drew ?_ | refine blk_alloc ?_ _)); exact BK305.out) hb); have n3_ := Aside0.mk ((show (true = true → ∃ g_ : Nat, pz314 = .pointer (some ⟨g_, 0, none⟩) ∧ IsS72 w w26 g_ v311 t313 ∧ gb305 ≠ g_) ∧ (true = false → pz314 = .pointer none) from ⟨fun h_ => (hz314.1 h_).elim fun g_ hg_ => ⟨g_, hg_.1, hg_.2.lower ((below_size (by repeat (first | (with_reducible first | exact HB.out | apply below_alloc | apply pw_below_drewN | apply below_drew1 | refine below_set ?_ GE305.out) | exact HB.out)))), Nat.ne_of_lt (Nat.lt_of_lt_of_le (blk_lt (g := gb305) (o := .cells #[.slice A304_0 ((rd_T26 l0 x3_1).f0).length c304_0, .int .i64 ((rd_T26 l0 x3_1).f1), .int .i64 ((rd_T26 l0 x3_1).f2)] 26 (0, 0)) (by (with_reducible repeat (first | refine blk_drewN ?_ _ | refine blk_drew ?_ | refine blk_alloc ?_ _)); exact BK305.out)) hg_.2.ge)⟩, hz314.2⟩)); have n4_ := Aside0.mk ((show (true = true → ∃ g_ : Nat, pz320 = .pointer (some ⟨g_, 0, none⟩) ∧ IsS59 w w26 g_ v317 t319 ∧ gb305 ≠ g_) ∧ (true = false → pz320 = .pointer none) from ⟨fun h_ => (hz320.1 h_).elim fun g_ hg_ => ⟨g_, hg_.1, hg_.2.lower ((below_size (by repeat (first | (with_reducible first | exact HB.out | apply below_alloc | apply pw_below_drewN | apply below_drew1 | refine below_set ?_ GE305.out) | exact HB.out)))), Nat.ne_of_lt (Nat.lt_of_lt_of_le (blk_lt (g := gb305) (o := .cells #[.slice A304_0 ((rd_T26 l0 x3_1).f0).length c304_0, .int .i64 ((rd_T26 l0 x3_1).f1), .int .i64 ((rd_T26 l0 x3_1).f2)] 26 (0, 0)) (by (with_reducible repeat (first | refine blk_drewN ?_ _ | refine blk_drew ?_ | refine blk_alloc ?_ _)); exact BK305.out)) hg_.2.ge)⟩, hz320.2⟩)); have n5_ := Aside0.mk (below_step (by repeat (first | (with_reducible first | exact HB.out | apply below_alloc | apply pw_below_drewN | apply below_drew1 | refine below_set ?_ GE305.out) | exact HB.out)) hb); clear BK305; clear HB; have HO312 := n0_; have HO318 := n1_; have BK305 := n2_; have HZ314 := n3_; have HZ320 := n4_; have HB := n5_; clear n0_ n1_ n2_ n3_ n4_ n5_; (try clear hb); (try clear hb2); (try clear hk); (try clear hi); (try clear ho0); (try clear ho1); obtain ⟨g314, e_, hi_, hn0_⟩ := HZ314.out.1 rfl; subst e_; have HI314 := Aside0.mk hi_; clear hi_ HZ314; have NB305_314 := Aside0.mk hn0_; have NB314_305 := Aside0.mk (Ne.symm hn0_); clear hn0_; obtain ⟨g320, e_, hi_, hn0_⟩ := HZ320.out.1 rfl; subst e_; have HI320 := Aside0.mk hi_; clear hi_ HZ320; have NB305_320 := Aside0.mk hn0_; have NB320_305 := Aside0.mk (Ne.symm hn0_); clear hn0_; have NB314_320 := Aside0.mk (IsS72.ne_blk HI314.out HI320.out.1 (by decide)); have NB320_314 := Aside0.mk (Ne.symm NB314_320.out); have hnb27 := NB305_314.out; have hnc27 := NB314_305.out; have hnb28 := NB305_320.out; have hnc28 := NB320_305.out; have hcz29_0 : w26.cell? ⟨gb305, 0, none⟩ = some (.slice A304_0 ((rd_T26 l0 x3_1).f0).length c304_0) := (blk_cell BK305.out 0).trans rfl; have hcz29_1 : w26.cell? ⟨gb305, 1, none⟩ = some (.int .i64 ((rd_T26 l0 x3_1).f1)) := (blk_cell BK305.out 1).trans rfl; have hcz29_2 : w26.cell? ⟨gb305, 2, none⟩ = some (.int .i64 ((rd_T26 l0 x3_1).f2)) := (blk_cell BK305.out 2).trans rfl; have hfz29_0 := blk_frozen BK305.out 0; have hfz29_1 := blk_frozen BK305.out 1; have hfz29_2 := blk_frozen BK305.out 2) | (go_at_call 17; (with_reducible refine (env_Lay.calls kj6 g314 (fun k_ => some k_ = (v311 : Value).ownBlock) v311 t310 t313 _ _ ((rd_T26 l0 x3_1).f0) 64 1024 t321 t322 t325 w _ ?side1 ?side2 ?side3 ?side4 ?side5 A23.out).mono ?_); (case side1 => repeat (first | (with_reducible first | exact HI314.out | apply IsS72.alloc | apply IsS72.drewN | apply IsS72.drew | apply IsS72.set_0 | apply IsS72.set_1 | refine IsS72.far ?_ NB314_305.out _) | exact HI314.out)); (case side2 => repeat (first | (with_reducible first | exact HB.out | apply below_alloc | apply pw_below_drewN | apply below_drew1 | refine below_set ?_ (IsS72.ge HI314.out) | refine below_set ?_ (IsS59.ge HI320.out) | refine below_set ?_ GE305.out) | exact HB.out)); (case side3 => exact Kd.R_tight rfl HO312.out); (case side4 => exact Kd.C_kept_came Kd.heap_string HR304_0.out (by repeat (first | (with_reducible first | exact HB.out | apply below_alloc | apply pw_below_drewN | apply below_drew1 | refine below_set ?_ (IsS72.ge HI314.out) | refine below_set ?_ (IsS59.ge HI320.out) | refine below_set ?_ GE305.out) | exact HB.out)) (fun k_ hs_ => Or.elim hs_ (fun hs_ => (fun e_ => Kd.R_base HO312.out k_ e_.symm) hs_) (fun e_ => (by rw [e_]; exact IsS72.ge HI314.out)))); (case side5 => exact HC304_0.out); rintro e w30 ⟨v323, rfl, ho0, hi, hb, hkp⟩; have n0_ := Aside0.mk (blk_kept (o := .cells #[.slice A304_0 ((rd_T26 l0 x3_1).f0).length c304_0, .int .i64 ((rd_T26 l0 x3_1).f1), .int .i64 ((rd_T26 l0 x3_1).f2)] 26 (0, 0)) (by (with_reducible repeat (first | refine blk_drewN ?_ _ | refine blk_drew ?_ | refine blk_alloc ?_ _)); exact BK305.out) hkp (fun hs_ => Or.elim hs_ (fun hs_ => (fun e_ => (Kd.R_ne HO312.out BK305.out (by decide)) e_) hs_) (fun e_ => NB305_314.out e_))); have n1_ := Aside0.mk (Kd.R_mono (ok' := fun k_ => some k_ ≠ (v323 : Value).ownBlock) (Kd.R_keptB ((IsS72.apart HI314.out HO318.out (by decide))) hkp (fun k_ hk_ hs_ => Or.elim hs_ (fun hs_ => (hk_.1) hs_) (fun e_ => (hk_.2) e_))) (fun k_ hk_ => fun e_ => Or.elim (ho0.1 k_ e_.symm) (fun hs_ => hk_.2.1 (.inl hs_)) (fun hn_ => Nat.not_le.2 hk_.2.2 hn_))); have n2_ := Aside0.mk (hi); have n3_ := Aside0.mk (IsS59.kept (by repeat (first | (with_reducible first | exact HI320.out | apply IsS59.alloc | apply IsS59.drewN | apply IsS59.drew | apply IsS59.set_0 | apply IsS59.set_1 | refine IsS59.far ?_ NB320_305.out _) | exact HI320.out)) hkp (fun hs_ => Or.elim hs_ (fun hs_ => (fun e_ => (IsS59.own_ne HI320.out HO312.out (by decide)) e_) hs_) (fun e_ => NB320_314.out e_))); have n4_ := Aside0.mk (Kd.R_mono (ok' := fun k_ => some k_ ≠ (v317 : Value).ownBlock) ho0 (fun k_ hk_ => Or.elim hk_ (fun hs_ => fun e_ => ((((IsS72.apart HI314.out HO318.out (by decide))).1 k_ e_.symm).1) hs_) (fun hn_ => (Kd.fresh' (Kd.R_lt (by (with_reducible repeat (first | apply Kd.R_alloc | apply Kd.R_drewN | apply Kd.R_drew)); exact HO318.out)) k_ hn_)))); have n5_ := Aside0.mk (hb); clear BK305; clear HO318; clear HI314; clear HI320; clear HB; clear HO312; have BK305 := n0_; have HO318 := n1_; have HI314 := n2_; have HI320 := n3_; have HO324 := n4_; have HB := n5_; clear n0_ n1_ n2_ n3_ n4_ n5_; (try clear hb); (try clear hkp); (try clear ho0)) | (go_at_call 8; (with_reducible refine (gangwaylaw22_num.calls t321 t326 _ A24.out).mono ?_); rintro e w' ⟨rfl, ⟨nd, rfl⟩⟩; (try first | exact ⟨rfl, _, World.drewN_drewN _ _ _⟩ | exact ⟨rfl, _, Eq.trans (World.drewN_drewN _ _ _) (congrArg (World.drewN _) (Nat.add_assoc _ _ _))⟩))))
                            go_loopg [7] kj6 (fun kq v7 w' => ∃ (x7_4 : Int) (x315000_4 : List Int) (x315001_4 : Int) (u315000 : Value), v7 = .int .i64 x7_4 ∧ Aside0 (gangwaylaw22_EnvBack.l1 kq l0 x3_1 x7_4 ((rd_T26 l0 x3_1).f0) ((rd_T26 l0 x3_1).f1) ((rd_T26 l0 x3_1).f2) x315000_4 x315001_4 = some r) ∧ Aside0 (kq ≤ kj6) ∧ Aside0 (Kd.R (Kd.int .u8) 5 w' w.heap.size (fun k_ => some k_ ≠ (v317 : Value).ownBlock) u315000 x315000_4) ∧ Aside0 (Kd.R (Kd.int .u8) 5 w' w.heap.size (fun k_ => some k_ ≠ (u315000 : Value).ownBlock) v317 t316) ∧ Aside0 (w'.heap[gb305]? = some (.cells #[(.slice A304_0 ((rd_T26 l0 x3_1).f0).length c304_0), .int .i64 ((rd_T26 l0 x3_1).f1), .int .i64 ((rd_T26 l0 x3_1).f2)] 26 (0, 0))) ∧ Aside0 (IsS72 w w' g314 u315000 x315001_4) ∧ Aside0 (IsS59 w w' g320 v317 t319) ∧ Aside0 (Below w.heap.size w w'))
                            case atStart => exact ⟨(0), (t322), (t325), (v323), (by first | rfl | (simp; done) | (simp [*]; done)), H', ⟨Nat.le_refl _⟩, ⟨by (with_reducible repeat (first | apply Kd.R_alloc | apply Kd.R_drewN | apply Kd.R_drew)); exact HO324.out⟩, ⟨by (with_reducible repeat (first | apply Kd.R_alloc | apply Kd.R_drewN | apply Kd.R_drew)); exact HO318.out⟩, ⟨by (with_reducible repeat (first | refine blk_drewN ?_ _ | refine blk_drew ?_ | refine blk_alloc ?_ _)); exact BK305.out⟩, ⟨by repeat (first | (with_reducible first | exact HI314.out | apply IsS72.alloc | apply IsS72.drewN | apply IsS72.drew | apply IsS72.set_0 | apply IsS72.set_1 | refine IsS72.far ?_ NB314_305.out _) | exact HI314.out)⟩, ⟨by repeat (first | (with_reducible first | exact HI320.out | apply IsS59.alloc | apply IsS59.drewN | apply IsS59.drew | apply IsS59.set_0 | apply IsS59.set_1 | refine IsS59.far ?_ NB320_305.out _) | exact HI320.out)⟩, ⟨by repeat (first | (with_reducible first | exact HB.out | apply below_alloc | apply pw_below_drewN | apply below_drew1 | refine below_set ?_ (IsS72.ge HI314.out) | refine below_set ?_ (IsS59.ge HI320.out) | refine below_set ?_ GE305.out) | exact HB.out)⟩⟩
                            case round =>
                              clear H'
                              try clear c1
                              try clear c2
                              try clear p2
                              try clear c3
                              try clear c3b0
                              try clear p3
                              try clear q3
                              try clear hx3
                              try clear c4
                              try clear c5
                              try clear c5b0
                              try clear c6
                              try clear c6b0
                              try clear p6
                              try clear c11
                              try clear c19
                              try clear c21
                              try clear c22
                              try clear c25
                              try clear c25b0
                              try clear c25b1
                              try clear c27
                              try clear c28
                              try clear c30
                              try clear p30
                              try clear q30
                              try clear hx30
                              try clear hcz12_0
                              try clear hcz12_1
                              try clear hcz12_2
                              try clear hcz16_0
                              try clear hcz16_1
                              try clear hcz16_2
                              try clear hcz18_0
                              try clear hcz18_1
                              try clear hcz18_2
                              try clear hcz29_0
                              try clear hcz29_1
                              try clear hcz29_2
                              try clear hcz9_0
                              try clear hcz9_1
                              try clear hcz9_2
                              try clear hfz12_0
                              try clear hfz12_1
                              try clear hfz12_2
                              try clear hfz16_0
                              try clear hfz16_1
                              try clear hfz16_2
                              try clear hfz18_0
                              try clear hfz18_1
                              try clear hfz18_2
                              try clear hfz29_0
                              try clear hfz29_1
                              try clear hfz29_2
                              try clear hfz9_0
                              try clear hfz9_1
                              try clear hfz9_2
                              try clear hx304_0
                              try clear hx304_1
                              try clear hx304_2
                              try clear p2
                              try clear p3
                              try clear p304
                              try clear q3
                              try clear q304
                              obtain ⟨x7_4, x315000_4, x315001_4, u315000, rfl, HA, HK4, HO_315000, HO_321000, BK305, HI314, HI320, HB⟩ := hrel
                              cases gk with
                              | zero => exact absurd HA.out (by simp [gangwaylaw22_EnvBack.l1])
                              | succ k4 =>
                                have H := HA.out
                                clear HA
                                simp only [gangwaylaw22_EnvBack.l1] at H
                                by_cases c31 : x7_4 < (((rd_T26 l0 x3_1).f0).length : Int)
                                · rw [if_pos c31] at H
                                  have c31b0 : decide (x7_4 < (((rd_T26 l0 x3_1).f0).length : Int)) = true := decide_eq_true c31
                                  clear c31
                                  replace H := Option.bind_eq_some_iff.mp H
                                  obtain ⟨⟨t327, t328, t329, t332⟩, A320, H⟩ := H
                                  replace H : ((gangwaylaw22_num.f t328).bind fun t333 => (if t333 = 0 then (if t327 < 1024 then (none) else (if t327 > 9000 then (none) else (if 0 ≤ x7_4 then ((mem_Memory_Read.f t329 t332 (wrap64 (t327)) (wrap64 (((rdOf ByteArray.empty ((rd_T26 l0 x3_1).f0) x7_4).size : Int) + 1))).bind fun bt346 => ((gangwaylaw22_num.f bt346.2.1).bind fun t354 => (if t354 = 0 then (if (rdOf ByteArray.empty ((rd_T26 l0 x3_1).f0) x7_4).size + 1 ≤ 9223372036854775807 then (if (strOfNums bt346.1).toList = ((rdOf ByteArray.empty ((rd_T26 l0 x3_1).f0) x7_4) ++ (⟨#[0]⟩ : ByteArray)).toList then (gangwaylaw22_EnvBack.l1 k4 l0 x3_1 (wrap64 (x7_4 + 1)) ((rd_T26 l0 x3_1).f0) ((rd_T26 l0 x3_1).f1) ((rd_T26 l0 x3_1).f2) bt346.2.2.1 bt346.2.2.2) else (none)) else (none)) else (none)))) else (none)))) else (none))) = some r := H
                                  have A32 := Aside0.mk A320
                                  clear A320
                                  replace H := Option.bind_eq_some_iff.mp H
                                  obtain ⟨t333, A330, H⟩ := H
                                  replace H : (if t333 = 0 then (if t327 < 1024 then (none) else (if t327 > 9000 then (none) else (if 0 ≤ x7_4 then ((mem_Memory_Read.f t329 t332 (wrap64 (t327)) (wrap64 (((rdOf ByteArray.empty ((rd_T26 l0 x3_1).f0) x7_4).size : Int) + 1))).bind fun bt346 => ((gangwaylaw22_num.f bt346.2.1).bind fun t354 => (if t354 = 0 then (if (rdOf ByteArray.empty ((rd_T26 l0 x3_1).f0) x7_4).size + 1 ≤ 9223372036854775807 then (if (strOfNums bt346.1).toList = ((rdOf ByteArray.empty ((rd_T26 l0 x3_1).f0) x7_4) ++ (⟨#[0]⟩ : ByteArray)).toList then (gangwaylaw22_EnvBack.l1 k4 l0 x3_1 (wrap64 (x7_4 + 1)) ((rd_T26 l0 x3_1).f0) ((rd_T26 l0 x3_1).f1) ((rd_T26 l0 x3_1).f2) bt346.2.2.1 bt346.2.2.2) else (none)) else (none)) else (none)))) else (none)))) else (none)) = some r := H
                                  have A33 := Aside0.mk A330
                                  clear A330
                                  by_cases c34 : t333 = 0
                                  · rw [if_pos c34] at H
                                    have c34b0 : (t333 == 0) = true := beq_iff_eq.mpr c34
                                    have c34b1 : (t333 != 0) = false := bne_eq_false_iff_eq.mpr c34
                                    clear c34
                                    by_cases c35 : t327 < 1024
                                    · rw [if_pos c35] at H
                                      exact absurd H (by simp)
                                    · rw [if_neg c35] at H
                                      have c35b0 : decide (t327 < 1024) = false := decide_eq_false c35
                                      clear c35
                                      by_cases c36 : t327 > 9000
                                      · rw [if_pos c36] at H
                                        exact absurd H (by simp)
                                      · rw [if_neg c36] at H
                                        have c36b0 : decide (9000 < t327) = false := decide_eq_false c36
                                        clear c36
                                        by_cases c37 : 0 ≤ x7_4
                                        · rw [if_pos c37] at H
                                          have c37b0 : decide (0 ≤ x7_4) = true := decide_eq_true c37
                                          clear c37
                                          replace H := Option.bind_eq_some_iff.mp H
                                          obtain ⟨⟨t346, t349, t350, t353⟩, A380, H⟩ := H
                                          replace H : ((gangwaylaw22_num.f t349).bind fun t354 => (if t354 = 0 then (if (rdOf ByteArray.empty ((rd_T26 l0 x3_1).f0) x7_4).size + 1 ≤ 9223372036854775807 then (if (strOfNums t346).toList = ((rdOf ByteArray.empty ((rd_T26 l0 x3_1).f0) x7_4) ++ (⟨#[0]⟩ : ByteArray)).toList then (gangwaylaw22_EnvBack.l1 k4 l0 x3_1 (wrap64 (x7_4 + 1)) ((rd_T26 l0 x3_1).f0) ((rd_T26 l0 x3_1).f1) ((rd_T26 l0 x3_1).f2) t350 t353) else (none)) else (none)) else (none))) = some r := H
                                          have A38 := Aside0.mk A380
                                          clear A380
                                          replace H := Option.bind_eq_some_iff.mp H
                                          obtain ⟨t354, A390, H⟩ := H
                                          replace H : (if t354 = 0 then (if (rdOf ByteArray.empty ((rd_T26 l0 x3_1).f0) x7_4).size + 1 ≤ 9223372036854775807 then (if (strOfNums t346).toList = ((rdOf ByteArray.empty ((rd_T26 l0 x3_1).f0) x7_4) ++ (⟨#[0]⟩ : ByteArray)).toList then (gangwaylaw22_EnvBack.l1 k4 l0 x3_1 (wrap64 (x7_4 + 1)) ((rd_T26 l0 x3_1).f0) ((rd_T26 l0 x3_1).f1) ((rd_T26 l0 x3_1).f2) t350 t353) else (none)) else (none)) else (none)) = some r := H
                                          have A39 := Aside0.mk A390
                                          clear A390
                                          by_cases c40 : t354 = 0
                                          · rw [if_pos c40] at H
                                            have c40b0 : (t354 == 0) = true := beq_iff_eq.mpr c40
                                            have c40b1 : (t354 != 0) = false := bne_eq_false_iff_eq.mpr c40
                                            clear c40
                                            by_cases c41 : (rdOf ByteArray.empty ((rd_T26 l0 x3_1).f0) x7_4).size + 1 ≤ 9223372036854775807
                                            · rw [if_pos c41] at H
                                              have LMc41 := Aside0.mk c41
                                              clear c41
                                              by_cases c42 : (strOfNums t346).toList = ((rdOf ByteArray.empty ((rd_T26 l0 x3_1).f0) x7_4) ++ (⟨#[0]⟩ : ByteArray)).toList
                                              · rw [if_pos c42] at H
                                                have c42b0 : ((strOfNums t346).toList == ((rdOf ByteArray.empty ((rd_T26 l0 x3_1).f0) x7_4) ++ (⟨#[0]⟩ : ByteArray)).toList) = true := beq_iff_eq.mpr c42
                                                have c42b1 : ((strOfNums t346).toList != ((rdOf ByteArray.empty ((rd_T26 l0 x3_1).f0) x7_4) ++ (⟨#[0]⟩ : ByteArray)).toList) = false := bne_eq_false_iff_eq.mpr c42
                                                clear c42
                                                have H' := Aside0.mk H
                                                clear H
                                                have hnb43 := NB305_314.out
                                                have hnc43 := NB314_305.out
                                                have hnb44 := NB305_320.out
                                                have hnc44 := NB320_305.out
                                                have hcz45_0 : wr.cell? ⟨gb305, 0, none⟩ = some (.slice A304_0 ((rd_T26 l0 x3_1).f0).length c304_0) := (blk_cell BK305.out 0).trans rfl
                                                have hcz45_1 : wr.cell? ⟨gb305, 1, none⟩ = some (.int .i64 ((rd_T26 l0 x3_1).f1)) := (blk_cell BK305.out 1).trans rfl
                                                have hcz45_2 : wr.cell? ⟨gb305, 2, none⟩ = some (.int .i64 ((rd_T26 l0 x3_1).f2)) := (blk_cell BK305.out 2).trans rfl
                                                have hfz45_0 := blk_frozen BK305.out 0
                                                have hfz45_1 := blk_frozen BK305.out 1
                                                have hfz45_2 := blk_frozen BK305.out 2
                                                go_wp2_with (first | (go_at_call 20; (with_reducible refine (mem_Memory_Load.calls k4 g314 (fun k_ => some k_ = (u315000 : Value).ownBlock) u315000 x315000_4 x315001_4 (wrap64 (64 + (wrap64 (4 * x7_4)))) 0 4 t327 t328 t329 t332 w _ ?side1 ?side2 ?side3 A32.out).mono ?_); (case side1 => repeat (first | (with_reducible first | exact HI314.out | apply IsS72.alloc | apply IsS72.drewN | apply IsS72.drew | apply IsS72.set_0 | apply IsS72.set_1 | refine IsS72.far ?_ NB314_305.out _) | exact HI314.out)); (case side2 => repeat (first | (with_reducible first | exact HB.out | apply below_alloc | apply pw_below_drewN | apply below_drew1 | refine below_set ?_ (IsS72.ge HI314.out) | refine below_set ?_ (IsS59.ge HI320.out) | refine below_set ?_ GE305.out) | exact HB.out)); (case side3 => exact Kd.R_tight rfl HO_315000.out); rintro e w46 ⟨v330, rfl, ho0, hi, hb, hkp⟩; have n0_ := Aside0.mk (Kd.R_mono (ok' := fun k_ => some k_ ≠ (v330 : Value).ownBlock) (Kd.R_keptB ((IsS72.apart HI314.out HO_321000.out (by decide))) hkp (fun k_ hk_ hs_ => Or.elim hs_ (fun hs_ => (hk_.1) hs_) (fun e_ => (hk_.2) e_))) (fun k_ hk_ => fun e_ => Or.elim (ho0.1 k_ e_.symm) (fun hs_ => hk_.2.1 (.inl hs_)) (fun hn_ => Nat.not_le.2 hk_.2.2 hn_))); have n1_ := Aside0.mk (blk_kept (o := .cells #[.slice A304_0 ((rd_T26 l0 x3_1).f0).length c304_0, .int .i64 ((rd_T26 l0 x3_1).f1), .int .i64 ((rd_T26 l0 x3_1).f2)] 26 (0, 0)) (by (with_reducible repeat (first | refine blk_drewN ?_ _ | refine blk_drew ?_ | refine blk_alloc ?_ _)); exact BK305.out) hkp (fun hs_ => Or.elim hs_ (fun hs_ => (fun e_ => (Kd.R_ne HO_315000.out BK305.out (by decide)) e_) hs_) (fun e_ => NB305_314.out e_))); have n2_ := Aside0.mk (hi); have n3_ := Aside0.mk (IsS59.kept (by repeat (first | (with_reducible first | exact HI320.out | apply IsS59.alloc | apply IsS59.drewN | apply IsS59.drew | apply IsS59.set_0 | apply IsS59.set_1 | refine IsS59.far ?_ NB320_305.out _) | exact HI320.out)) hkp (fun hs_ => Or.elim hs_ (fun hs_ => (fun e_ => (IsS59.own_ne HI320.out HO_315000.out (by decide)) e_) hs_) (fun e_ => NB320_314.out e_))); have n4_ := Aside0.mk (Kd.R_mono (ok' := fun k_ => some k_ ≠ (v317 : Value).ownBlock) ho0 (fun k_ hk_ => Or.elim hk_ (fun hs_ => fun e_ => ((((IsS72.apart HI314.out HO_321000.out (by decide))).1 k_ e_.symm).1) hs_) (fun hn_ => (Kd.fresh' (Kd.R_lt (by (with_reducible repeat (first | apply Kd.R_alloc | apply Kd.R_drewN | apply Kd.R_drew)); exact HO_321000.out)) k_ hn_)))); have n5_ := Aside0.mk (hb); clear HO_321000; clear BK305; clear HI314; clear HI320; clear HB; clear HO_315000; have HO_321000 := n0_; have BK305 := n1_; have HI314 := n2_; have HI320 := n3_; have HO331 := n4_; have HB := n5_; clear n0_ n1_ n2_ n3_ n4_ n5_; (try clear hb); (try clear hkp); (try clear ho0)) | (go_at_call 8; (with_reducible refine (gangwaylaw22_num.calls t328 t333 _ A33.out).mono ?_); rintro e w' ⟨rfl, ⟨nd, rfl⟩⟩; (try first | exact ⟨rfl, _, World.drewN_drewN _ _ _⟩ | exact ⟨rfl, _, Eq.trans (World.drewN_drewN _ _ _) (congrArg (World.drewN _) (Nat.add_assoc _ _ _))⟩); have hcz47_0 : w46.cell? ⟨gb305, 0, none⟩ = some (.slice A304_0 ((rd_T26 l0 x3_1).f0).length c304_0) := (blk_cell BK305.out 0).trans rfl; have hcz47_1 : w46.cell? ⟨gb305, 1, none⟩ = some (.int .i64 ((rd_T26 l0 x3_1).f1)) := (blk_cell BK305.out 1).trans rfl; have hcz47_2 : w46.cell? ⟨gb305, 2, none⟩ = some (.int .i64 ((rd_T26 l0 x3_1).f2)) := (blk_cell BK305.out 2).trans rfl; have hfz47_0 := blk_frozen BK305.out 0; have hfz47_1 := blk_frozen BK305.out 1; have hfz47_2 := blk_frozen BK305.out 2; have p345 : 0 ≤ (x7_4 : Int) := of_decide_eq_true (by first | (with_reducible assumption) | assumption); have q345 : x7_4 < (((rd_T26 l0 x3_1).f0).length : Int) := of_decide_eq_true (by first | (with_reducible assumption) | assumption); obtain ⟨ad345, e345, hx345_0⟩ := Kd.at_string HR304_0.out x7_4 p345 q345; cases e345; replace hx345_0 := (HB.out.cell (World.block_lt_of_cell? w _ hx345_0)).trans hx345_0; replace p345 := eq_true p345; replace q345 := eq_true q345) | (go_at_call 21; (with_reducible refine (mem_Memory_Read.calls g314 (fun k_ => some k_ = (v330 : Value).ownBlock) v330 t329 t332 (wrap64 (t327)) (wrap64 (((rdOf ByteArray.empty ((rd_T26 l0 x3_1).f0) x7_4).size : Int) + 1)) t346 t349 t350 t353 w _ ?side1 ?side2 ?side3 A38.out).mono ?_); (case side1 => repeat (first | (with_reducible first | exact HI314.out | apply IsS72.alloc | apply IsS72.drewN | apply IsS72.drew | apply IsS72.set_0 | apply IsS72.set_1 | refine IsS72.far ?_ NB314_305.out _) | exact HI314.out)); (case side2 => repeat (first | (with_reducible first | exact HB.out | apply below_alloc | apply pw_below_drewN | apply below_drew1 | refine below_set ?_ (IsS72.ge HI314.out) | refine below_set ?_ (IsS59.ge HI320.out) | refine below_set ?_ GE305.out) | exact HB.out)); (case side3 => exact Kd.R_tight rfl HO331.out); rintro e w48 ⟨v347, v351, rfl, ho0, ho1, hi, hb, hkp⟩; have n0_ := Aside0.mk (Kd.R_mono (ok' := fun k_ => some k_ ≠ (v347 : Value).ownBlock ∧ some k_ ≠ (v351 : Value).ownBlock) (Kd.R_keptB ((IsS72.apart HI314.out HO_321000.out (by decide))) hkp (fun k_ hk_ hs_ => Or.elim hs_ (fun hs_ => (hk_.1) hs_) (fun e_ => (hk_.2) e_))) (fun k_ hk_ => ⟨fun e_ => Or.elim (ho0.1 k_ e_.symm).1 (fun hs_ => hk_.2.1 (.inl hs_)) (fun hn_ => Nat.not_le.2 hk_.2.2 hn_), fun e_ => Or.elim (ho1.1 k_ e_.symm).1 (fun hs_ => hk_.2.1 (.inl hs_)) (fun hn_ => Nat.not_le.2 hk_.2.2 hn_)⟩)); have n1_ := Aside0.mk (blk_kept (o := .cells #[.slice (some ad345) ((rd_T26 l0 x3_1).f0).length c304_0, .int .i64 ((rd_T26 l0 x3_1).f1), .int .i64 ((rd_T26 l0 x3_1).f2)] 26 (0, 0)) (by (with_reducible repeat (first | refine blk_drewN ?_ _ | refine blk_drew ?_ | refine blk_alloc ?_ _)); exact BK305.out) hkp (fun hs_ => Or.elim hs_ (fun hs_ => (fun e_ => (Kd.R_ne HO331.out BK305.out (by decide)) e_) hs_) (fun e_ => NB305_314.out e_))); have n2_ := Aside0.mk (hi); have n3_ := Aside0.mk (IsS59.kept (by repeat (first | (with_reducible first | exact HI320.out | apply IsS59.alloc | apply IsS59.drewN | apply IsS59.drew | apply IsS59.set_0 | apply IsS59.set_1 | refine IsS59.far ?_ NB320_305.out _) | exact HI320.out)) hkp (fun hs_ => Or.elim hs_ (fun hs_ => (fun e_ => (IsS59.own_ne HI320.out HO331.out (by decide)) e_) hs_) (fun e_ => NB320_314.out e_))); have n4_ := Aside0.mk (Kd.R_mono (ok' := fun k_ => some k_ ≠ (v351 : Value).ownBlock ∧ some k_ ≠ (v317 : Value).ownBlock) ho0 (fun k_ hk_ => ⟨hk_.2, Or.elim hk_.1 (fun hs_ => fun e_ => ((((IsS72.apart HI314.out HO_321000.out (by decide))).1 k_ e_.symm).1) hs_) (fun hn_ => (Kd.fresh' (Kd.R_lt (by (with_reducible repeat (first | apply Kd.R_alloc | apply Kd.R_drewN | apply Kd.R_drew)); exact HO_321000.out)) k_ hn_))⟩)); have n5_ := Aside0.mk (Kd.R_mono (ok' := fun k_ => some k_ ≠ (v347 : Value).ownBlock ∧ some k_ ≠ (v317 : Value).ownBlock) ho1 (fun k_ hk_ => ⟨hk_.2, Or.elim hk_.1 (fun hs_ => fun e_ => ((((IsS72.apart HI314.out HO_321000.out (by decide))).1 k_ e_.symm).1) hs_) (fun hn_ => (Kd.fresh' (Kd.R_lt (by (with_reducible repeat (first | apply Kd.R_alloc | apply Kd.R_drewN | apply Kd.R_drew)); exact HO_321000.out)) k_ hn_))⟩)); have n6_ := Aside0.mk (hb); clear HO_321000; clear BK305; clear HI314; clear HI320; clear HB; clear HO331; have HO_321000 := n0_; have BK305 := n1_; have HI314 := n2_; have HI320 := n3_; have HO348 := n4_; have HO352 := n5_; have HB := n6_; clear n0_ n1_ n2_ n3_ n4_ n5_ n6_; (try clear hb); (try clear hkp); (try clear ho0); (try clear ho1); have hf490 := LMc41.out; have hf491 : decide ((rdOf ByteArray.empty ((rd_T26 l0 x3_1).f0) x7_4).size + 1 ≤ 9223372036854775807) = true := decide_eq_true hf490; have hf492 : (9223372036854775807 < (rdOf ByteArray.empty ((rd_T26 l0 x3_1).f0) x7_4).size + 1) = False := eq_false (Nat.not_lt.2 hf490)) | (go_at_call 8; (with_reducible refine (gangwaylaw22_num.calls t349 t354 _ A39.out).mono ?_); rintro e w' ⟨rfl, ⟨nd, rfl⟩⟩; (try first | exact ⟨rfl, _, World.drewN_drewN _ _ _⟩ | exact ⟨rfl, _, Eq.trans (World.drewN_drewN _ _ _) (congrArg (World.drewN _) (Nat.add_assoc _ _ _))⟩); have hcv50 := own_string (P := Try.prog) Try.underlying32 Try.underlying5 Try.underlying9 (Kd.own_of_R HO348.out); have hcv51 := fun nd_ : Nat => own_string (P := Try.prog) Try.underlying32 Try.underlying5 Try.underlying9 (Kd.own_of_R (Kd.R_drewN HO348.out nd_)); have hcz52_0 : w48.cell? ⟨gb305, 0, none⟩ = some (.slice (some ad345) ((rd_T26 l0 x3_1).f0).length c304_0) := (blk_cell BK305.out 0).trans rfl; have hcz52_1 : w48.cell? ⟨gb305, 1, none⟩ = some (.int .i64 ((rd_T26 l0 x3_1).f1)) := (blk_cell BK305.out 1).trans rfl; have hcz52_2 : w48.cell? ⟨gb305, 2, none⟩ = some (.int .i64 ((rd_T26 l0 x3_1).f2)) := (blk_cell BK305.out 2).trans rfl; have hfz52_0 := blk_frozen BK305.out 0; have hfz52_1 := blk_frozen BK305.out 1; have hfz52_2 := blk_frozen BK305.out 2; have p355 : 0 ≤ (x7_4 : Int) := of_decide_eq_true (by first | (with_reducible assumption) | assumption); have q355 : x7_4 < (((rd_T26 l0 x3_1).f0).length : Int) := of_decide_eq_true (by first | (with_reducible assumption) | assumption); obtain ⟨ad355, e355, hx355_0⟩ := Kd.at_string HR304_0.out x7_4 p355 q355; obtain rfl : ad345 = ad355 := (by injection e355); replace hx355_0 := (HB.out.cell (World.block_lt_of_cell? w _ hx355_0)).trans hx355_0; replace p355 := eq_true p355; replace q355 := eq_true q355))
                                                repeat (go_quiet (first | (go_at_call 20; (with_reducible refine (mem_Memory_Load.calls k4 g314 (fun k_ => some k_ = (u315000 : Value).ownBlock) u315000 x315000_4 x315001_4 (wrap64 (64 + (wrap64 (4 * x7_4)))) 0 4 t327 t328 t329 t332 w _ ?side1 ?side2 ?side3 A32.out).mono ?_); (case side1 => repeat (first | (with_reducible first | exact HI314.out | apply IsS72.alloc | apply IsS72.drewN | apply IsS72.drew | apply IsS72.set_0 | apply IsS72.set_1 | refine IsS72.far ?_ NB314_305.out _) | exact HI314.out)); (case side2 => repeat (first | (with_reducible first | exact HB.out | apply below_alloc | apply pw_below_drewN | apply below_drew1 | refine below_set ?_ (IsS72.ge HI314.out) | refine below_set ?_ (IsS59.ge HI320.out) | refine below_set ?_ GE305.out) | exact HB.out)); (case side3 => exact Kd.R_tight rfl HO_315000.out); rintro e w46 ⟨v330, rfl, ho0, hi, hb, hkp⟩; have n0_ := Aside0.mk (Kd.R_mono (ok' := fun k_ => some k_ ≠ (v330 : Value).ownBlock) (Kd.R_keptB ((IsS72.apart HI314.out HO_321000.out (by decide))) hkp (fun k_ hk_ hs_ => Or.elim hs_ (fun hs_ => (hk_.1) hs_) (fun e_ => (hk_.2) e_))) (fun k_ hk_ => fun e_ => Or.elim (ho0.1 k_ e_.symm) (fun hs_ => hk_.2.1 (.inl hs_)) (fun hn_ => Nat.not_le.2 hk_.2.2 hn_))); have n1_ := Aside0.mk (blk_kept (o := .cells #[.slice A304_0 ((rd_T26 l0 x3_1).f0).length c304_0, .int .i64 ((rd_T26 l0 x3_1).f1), .int .i64 ((rd_T26 l0 x3_1).f2)] 26 (0, 0)) (by (with_reducible repeat (first | refine blk_drewN ?_ _ | refine blk_drew ?_ | refine blk_alloc ?_ _)); exact BK305.out) hkp (fun hs_ => Or.elim hs_ (fun hs_ => (fun e_ => (Kd.R_ne HO_315000.out BK305.out (by decide)) e_) hs_) (fun e_ => NB305_314.out e_))); have n2_ := Aside0.mk (hi); have n3_ := Aside0.mk (IsS59.kept (by repeat (first | (with_reducible first | exact HI320.out | apply IsS59.alloc | apply IsS59.drewN | apply IsS59.drew | apply IsS59.set_0 | apply IsS59.set_1 | refine IsS59.far ?_ NB320_305.out _) | exact HI320.out)) hkp (fun hs_ => Or.elim hs_ (fun hs_ => (fun e_ => (IsS59.own_ne HI320.out HO_315000.out (by decide)) e_) hs_) (fun e_ => NB320_314.out e_))); have n4_ := Aside0.mk (Kd.R_mono (ok' := fun k_ => some k_ ≠ (v317 : Value).ownBlock) ho0 (fun k_ hk_ => Or.elim hk_ (fun hs_ => fun e_ => ((((IsS72.apart HI314.out HO_321000.out (by decide))).1 k_ e_.symm).1) hs_) (fun hn_ => (Kd.fresh' (Kd.R_lt (by (with_reducible repeat (first | apply Kd.R_alloc | apply Kd.R_drewN | apply Kd.R_drew)); exact HO_321000.out)) k_ hn_)))); have n5_ := Aside0.mk (hb); clear HO_321000; clear BK305; clear HI314; clear HI320; clear HB; clear HO_315000; have HO_321000 := n0_; have BK305 := n1_; have HI314 := n2_; have HI320 := n3_; have HO331 := n4_; have HB := n5_; clear n0_ n1_ n2_ n3_ n4_ n5_; (try clear hb); (try clear hkp); (try clear ho0)) | (go_at_call 8; (with_reducible refine (gangwaylaw22_num.calls t328 t333 _ A33.out).mono ?_); rintro e w' ⟨rfl, ⟨nd, rfl⟩⟩; (try first | exact ⟨rfl, _, World.drewN_drewN _ _ _⟩ | exact ⟨rfl, _, Eq.trans (World.drewN_drewN _ _ _) (congrArg (World.drewN _) (Nat.add_assoc _ _ _))⟩); have hcz47_0 : w46.cell? ⟨gb305, 0, none⟩ = some (.slice A304_0 ((rd_T26 l0 x3_1).f0).length c304_0) := (blk_cell BK305.out 0).trans rfl; have hcz47_1 : w46.cell? ⟨gb305, 1, none⟩ = some (.int .i64 ((rd_T26 l0 x3_1).f1)) := (blk_cell BK305.out 1).trans rfl; have hcz47_2 : w46.cell? ⟨gb305, 2, none⟩ = some (.int .i64 ((rd_T26 l0 x3_1).f2)) := (blk_cell BK305.out 2).trans rfl; have hfz47_0 := blk_frozen BK305.out 0; have hfz47_1 := blk_frozen BK305.out 1; have hfz47_2 := blk_frozen BK305.out 2; have p345 : 0 ≤ (x7_4 : Int) := of_decide_eq_true (by first | (with_reducible assumption) | assumption); have q345 : x7_4 < (((rd_T26 l0 x3_1).f0).length : Int) := of_decide_eq_true (by first | (with_reducible assumption) | assumption); obtain ⟨ad345, e345, hx345_0⟩ := Kd.at_string HR304_0.out x7_4 p345 q345; cases e345; replace hx345_0 := (HB.out.cell (World.block_lt_of_cell? w _ hx345_0)).trans hx345_0; replace p345 := eq_true p345; replace q345 := eq_true q345) | (go_at_call 21; (with_reducible refine (mem_Memory_Read.calls g314 (fun k_ => some k_ = (v330 : Value).ownBlock) v330 t329 t332 (wrap64 (t327)) (wrap64 (((rdOf ByteArray.empty ((rd_T26 l0 x3_1).f0) x7_4).size : Int) + 1)) t346 t349 t350 t353 w _ ?side1 ?side2 ?side3 A38.out).mono ?_); (case side1 => repeat (first | (with_reducible first | exact HI314.out | apply IsS72.alloc | apply IsS72.drewN | apply IsS72.drew | apply IsS72.set_0 | apply IsS72.set_1 | refine IsS72.far ?_ NB314_305.out _) | exact HI314.out)); (case side2 => repeat (first | (with_reducible first | exact HB.out | apply below_alloc | apply pw_below_drewN | apply below_drew1 | refine below_set ?_ (IsS72.ge HI314.out) | refine below_set ?_ (IsS59.ge HI320.out) | refine below_set ?_ GE305.out) | exact HB.out)); (case side3 => exact Kd.R_tight rfl HO331.out); rintro e w48 ⟨v347, v351, rfl, ho0, ho1, hi, hb, hkp⟩; have n0_ := Aside0.mk (Kd.R_mono (ok' := fun k_ => some k_ ≠ (v347 : Value).ownBlock ∧ some k_ ≠ (v351 : Value).ownBlock) (Kd.R_keptB ((IsS72.apart HI314.out HO_321000.out (by decide))) hkp (fun k_ hk_ hs_ => Or.elim hs_ (fun hs_ => (hk_.1) hs_) (fun e_ => (hk_.2) e_))) (fun k_ hk_ => ⟨fun e_ => Or.elim (ho0.1 k_ e_.symm).1 (fun hs_ => hk_.2.1 (.inl hs_)) (fun hn_ => Nat.not_le.2 hk_.2.2 hn_), fun e_ => Or.elim (ho1.1 k_ e_.symm).1 (fun hs_ => hk_.2.1 (.inl hs_)) (fun hn_ => Nat.not_le.2 hk_.2.2 hn_)⟩)); have n1_ := Aside0.mk (blk_kept (o := .cells #[.slice (some ad345) ((rd_T26 l0 x3_1).f0).length c304_0, .int .i64 ((rd_T26 l0 x3_1).f1), .int .i64 ((rd_T26 l0 x3_1).f2)] 26 (0, 0)) (by (with_reducible repeat (first | refine blk_drewN ?_ _ | refine blk_drew ?_ | refine blk_alloc ?_ _)); exact BK305.out) hkp (fun hs_ => Or.elim hs_ (fun hs_ => (fun e_ => (Kd.R_ne HO331.out BK305.out (by decide)) e_) hs_) (fun e_ => NB305_314.out e_))); have n2_ := Aside0.mk (hi); have n3_ := Aside0.mk (IsS59.kept (by repeat (first | (with_reducible first | exact HI320.out | apply IsS59.alloc | apply IsS59.drewN | apply IsS59.drew | apply IsS59.set_0 | apply IsS59.set_1 | refine IsS59.far ?_ NB320_305.out _) | exact HI320.out)) hkp (fun hs_ => Or.elim hs_ (fun hs_ => (fun e_ => (IsS59.own_ne HI320.out HO331.out (by decide)) e_) hs_) (fun e_ => NB320_314.out e_))); have n4_ := Aside0.mk (Kd.R_mono (ok' := fun k_ => some k_ ≠ (v351 : Value).ownBlock ∧ some k_ ≠ (v317 : Value).ownBlock) ho0 (fun k_ hk_ => ⟨hk_.2, Or.elim hk_.1 (fun hs_ => fun e_ => ((((IsS72.apart HI314.out HO_321000.out (by decide))).1 k_ e_.symm).1) hs_) (fun hn_ => (Kd.fresh' (Kd.R_lt (by (with_reducible repeat (first | apply Kd.R_alloc | apply Kd.R_drewN | apply Kd.R_drew)); exact HO_321000.out)) k_ hn_))⟩)); have n5_ := Aside0.mk (Kd.R_mono (ok' := fun k_ => some k_ ≠ (v347 : Value).ownBlock ∧ some k_ ≠ (v317 : Value).ownBlock) ho1 (fun k_ hk_ => ⟨hk_.2, Or.elim hk_.1 (fun hs_ => fun e_ => ((((IsS72.apart HI314.out HO_321000.out (by decide))).1 k_ e_.symm).1) hs_) (fun hn_ => (Kd.fresh' (Kd.R_lt (by (with_reducible repeat (first | apply Kd.R_alloc | apply Kd.R_drewN | apply Kd.R_drew)); exact HO_321000.out)) k_ hn_))⟩)); have n6_ := Aside0.mk (hb); clear HO_321000; clear BK305; clear HI314; clear HI320; clear HB; clear HO331; have HO_321000 := n0_; have BK305 := n1_; have HI314 := n2_; have HI320 := n3_; have HO348 := n4_; have HO352 := n5_; have HB := n6_; clear n0_ n1_ n2_ n3_ n4_ n5_ n6_; (try clear hb); (try clear hkp); (try clear ho0); (try clear ho1); have hf490 := LMc41.out; have hf491 : decide ((rdOf ByteArray.empty ((rd_T26 l0 x3_1).f0) x7_4).size + 1 ≤ 9223372036854775807) = true := decide_eq_true hf490; have hf492 : (9223372036854775807 < (rdOf ByteArray.empty ((rd_T26 l0 x3_1).f0) x7_4).size + 1) = False := eq_false (Nat.not_lt.2 hf490)) | (go_at_call 8; (with_reducible refine (gangwaylaw22_num.calls t349 t354 _ A39.out).mono ?_); rintro e w' ⟨rfl, ⟨nd, rfl⟩⟩; (try first | exact ⟨rfl, _, World.drewN_drewN _ _ _⟩ | exact ⟨rfl, _, Eq.trans (World.drewN_drewN _ _ _) (congrArg (World.drewN _) (Nat.add_assoc _ _ _))⟩); have hcv50 := own_string (P := Try.prog) Try.underlying32 Try.underlying5 Try.underlying9 (Kd.own_of_R HO348.out); have hcv51 := fun nd_ : Nat => own_string (P := Try.prog) Try.underlying32 Try.underlying5 Try.underlying9 (Kd.own_of_R (Kd.R_drewN HO348.out nd_)); have hcz52_0 : w48.cell? ⟨gb305, 0, none⟩ = some (.slice (some ad345) ((rd_T26 l0 x3_1).f0).length c304_0) := (blk_cell BK305.out 0).trans rfl; have hcz52_1 : w48.cell? ⟨gb305, 1, none⟩ = some (.int .i64 ((rd_T26 l0 x3_1).f1)) := (blk_cell BK305.out 1).trans rfl; have hcz52_2 : w48.cell? ⟨gb305, 2, none⟩ = some (.int .i64 ((rd_T26 l0 x3_1).f2)) := (blk_cell BK305.out 2).trans rfl; have hfz52_0 := blk_frozen BK305.out 0; have hfz52_1 := blk_frozen BK305.out 1; have hfz52_2 := blk_frozen BK305.out 2; have p355 : 0 ≤ (x7_4 : Int) := of_decide_eq_true (by first | (with_reducible assumption) | assumption); have q355 : x7_4 < (((rd_T26 l0 x3_1).f0).length : Int) := of_decide_eq_true (by first | (with_reducible assumption) | assumption); obtain ⟨ad355, e355, hx355_0⟩ := Kd.at_string HR304_0.out x7_4 p355 q355; obtain rfl : ad345 = ad355 := (by injection e355); replace hx355_0 := (HB.out.cell (World.block_lt_of_cell? w _ hx355_0)).trans hx355_0; replace p355 := eq_true p355; replace q355 := eq_true q355)); try go_wp2_with (first | (go_at_call 20; (with_reducible refine (mem_Memory_Load.calls k4 g314 (fun k_ => some k_ = (u315000 : Value).ownBlock) u315000 x315000_4 x315001_4 (wrap64 (64 + (wrap64 (4 * x7_4)))) 0 4 t327 t328 t329 t332 w _ ?side1 ?side2 ?side3 A32.out).mono ?_); (case side1 => repeat (first | (with_reducible first | exact HI314.out | apply IsS72.alloc | apply IsS72.drewN | apply IsS72.drew | apply IsS72.set_0 | apply IsS72.set_1 | refine IsS72.far ?_ NB314_305.out _) | exact HI314.out)); (case side2 => repeat (first | (with_reducible first | exact HB.out | apply below_alloc | apply pw_below_drewN | apply below_drew1 | refine below_set ?_ (IsS72.ge HI314.out) | refine below_set ?_ (IsS59.ge HI320.out) | refine below_set ?_ GE305.out) | exact HB.out)); (case side3 => exact Kd.R_tight rfl HO_315000.out); rintro e w46 ⟨v330, rfl, ho0, hi, hb, hkp⟩; have n0_ := Aside0.mk (Kd.R_mono (ok' := fun k_ => some k_ ≠ (v330 : Value).ownBlock) (Kd.R_keptB ((IsS72.apart HI314.out HO_321000.out (by decide))) hkp (fun k_ hk_ hs_ => Or.elim hs_ (fun hs_ => (hk_.1) hs_) (fun e_ => (hk_.2) e_))) (fun k_ hk_ => fun e_ => Or.elim (ho0.1 k_ e_.symm) (fun hs_ => hk_.2.1 (.inl hs_)) (fun hn_ => Nat.not_le.2 hk_.2.2 hn_))); have n1_ := Aside0.mk (blk_kept (o := .cells #[.slice A304_0 ((rd_T26 l0 x3_1).f0).length c304_0, .int .i64 ((rd_T26 l0 x3_1).f1), .int .i64 ((rd_T26 l0 x3_1).f2)] 26 (0, 0)) (by (with_reducible repeat (first | refine blk_drewN ?_ _ | refine blk_drew ?_ | refine blk_alloc ?_ _)); exact BK305.out) hkp (fun hs_ => Or.elim hs_ (fun hs_ => (fun e_ => (Kd.R_ne HO_315000.out BK305.out (by decide)) e_) hs_) (fun e_ => NB305_314.out e_))); have n2_ := Aside0.mk (hi); have n3_ := Aside0.mk (IsS59.kept (by repeat (first | (with_reducible first | exact HI320.out | apply IsS59.alloc | apply IsS59.drewN | apply IsS59.drew | apply IsS59.set_0 | apply IsS59.set_1 | refine IsS59.far ?_ NB320_305.out _) | exact HI320.out)) hkp (fun hs_ => Or.elim hs_ (fun hs_ => (fun e_ => (IsS59.own_ne HI320.out HO_315000.out (by decide)) e_) hs_) (fun e_ => NB320_314.out e_))); have n4_ := Aside0.mk (Kd.R_mono (ok' := fun k_ => some k_ ≠ (v317 : Value).ownBlock) ho0 (fun k_ hk_ => Or.elim hk_ (fun hs_ => fun e_ => ((((IsS72.apart HI314.out HO_321000.out (by decide))).1 k_ e_.symm).1) hs_) (fun hn_ => (Kd.fresh' (Kd.R_lt (by (with_reducible repeat (first | apply Kd.R_alloc | apply Kd.R_drewN | apply Kd.R_drew)); exact HO_321000.out)) k_ hn_)))); have n5_ := Aside0.mk (hb); clear HO_321000; clear BK305; clear HI314; clear HI320; clear HB; clear HO_315000; have HO_321000 := n0_; have BK305 := n1_; have HI314 := n2_; have HI320 := n3_; have HO331 := n4_; have HB := n5_; clear n0_ n1_ n2_ n3_ n4_ n5_; (try clear hb); (try clear hkp); (try clear ho0)) | (go_at_call 8; (with_reducible refine (gangwaylaw22_num.calls t328 t333 _ A33.out).mono ?_); rintro e w' ⟨rfl, ⟨nd, rfl⟩⟩; (try first | exact ⟨rfl, _, World.drewN_drewN _ _ _⟩ | exact ⟨rfl, _, Eq.trans (World.drewN_drewN _ _ _) (congrArg (World.drewN _) (Nat.add_assoc _ _ _))⟩); have hcz47_0 : w46.cell? ⟨gb305, 0, none⟩ = some (.slice A304_0 ((rd_T26 l0 x3_1).f0).length c304_0) := (blk_cell BK305.out 0).trans rfl; have hcz47_1 : w46.cell? ⟨gb305, 1, none⟩ = some (.int .i64 ((rd_T26 l0 x3_1).f1)) := (blk_cell BK305.out 1).trans rfl; have hcz47_2 : w46.cell? ⟨gb305, 2, none⟩ = some (.int .i64 ((rd_T26 l0 x3_1).f2)) := (blk_cell BK305.out 2).trans rfl; have hfz47_0 := blk_frozen BK305.out 0; have hfz47_1 := blk_frozen BK305.out 1; have hfz47_2 := blk_frozen BK305.out 2; have p345 : 0 ≤ (x7_4 : Int) := of_decide_eq_true (by first | (with_reducible assumption) | assumption); have q345 : x7_4 < (((rd_T26 l0 x3_1).f0).length : Int) := of_decide_eq_true (by first | (with_reducible assumption) | assumption); obtain ⟨ad345, e345, hx345_0⟩ := Kd.at_string HR304_0.out x7_4 p345 q345; cases e345; replace hx345_0 := (HB.out.cell (World.block_lt_of_cell? w _ hx345_0)).trans hx345_0; replace p345 := eq_true p345; replace q345 := eq_true q345) | (go_at_call 21; (with_reducible refine (mem_Memory_Read.calls g314 (fun k_ => some k_ = (v330 : Value).ownBlock) v330 t329 t332 (wrap64 (t327)) (wrap64 (((rdOf ByteArray.empty ((rd_T26 l0 x3_1).f0) x7_4).size : Int) + 1)) t346 t349 t350 t353 w _ ?side1 ?side2 ?side3 A38.out).mono ?_); (case side1 => repeat (first | (with_reducible first | exact HI314.out | apply IsS72.alloc | apply IsS72.drewN | apply IsS72.drew | apply IsS72.set_0 | apply IsS72.set_1 | refine IsS72.far ?_ NB314_305.out _) | exact HI314.out)); (case side2 => repeat (first | (with_reducible first | exact HB.out | apply below_alloc | apply pw_below_drewN | apply below_drew1 | refine below_set ?_ (IsS72.ge HI314.out) | refine below_set ?_ (IsS59.ge HI320.out) | refine below_set ?_ GE305.out) | exact HB.out)); (case side3 => exact Kd.R_tight rfl HO331.out); rintro e w48 ⟨v347, v351, rfl, ho0, ho1, hi, hb, hkp⟩; have n0_ := Aside0.mk (Kd.R_mono (ok' := fun k_ => some k_ ≠ (v347 : Value).ownBlock ∧ some k_ ≠ (v351 : Value).ownBlock) (Kd.R_keptB ((IsS72.apart HI314.out HO_321000.out (by decide))) hkp (fun k_ hk_ hs_ => Or.elim hs_ (fun hs_ => (hk_.1) hs_) (fun e_ => (hk_.2) e_))) (fun k_ hk_ => ⟨fun e_ => Or.elim (ho0.1 k_ e_.symm).1 (fun hs_ => hk_.2.1 (.inl hs_)) (fun hn_ => Nat.not_le.2 hk_.2.2 hn_), fun e_ => Or.elim (ho1.1 k_ e_.symm).1 (fun hs_ => hk_.2.1 (.inl hs_)) (fun hn_ => Nat.not_le.2 hk_.2.2 hn_)⟩)); have n1_ := Aside0.mk (blk_kept (o := .cells #[.slice (some ad345) ((rd_T26 l0 x3_1).f0).length c304_0, .int .i64 ((rd_T26 l0 x3_1).f1), .int .i64 ((rd_T26 l0 x3_1).f2)] 26 (0, 0)) (by (with_reducible repeat (first | refine blk_drewN ?_ _ | refine blk_drew ?_ | refine blk_alloc ?_ _)); exact BK305.out) hkp (fun hs_ => Or.elim hs_ (fun hs_ => (fun e_ => (Kd.R_ne HO331.out BK305.out (by decide)) e_) hs_) (fun e_ => NB305_314.out e_))); have n2_ := Aside0.mk (hi); have n3_ := Aside0.mk (IsS59.kept (by repeat (first | (with_reducible first | exact HI320.out | apply IsS59.alloc | apply IsS59.drewN | apply IsS59.drew | apply IsS59.set_0 | apply IsS59.set_1 | refine IsS59.far ?_ NB320_305.out _) | exact HI320.out)) hkp (fun hs_ => Or.elim hs_ (fun hs_ => (fun e_ => (IsS59.own_ne HI320.out HO331.out (by decide)) e_) hs_) (fun e_ => NB320_314.out e_))); have n4_ := Aside0.mk (Kd.R_mono (ok' := fun k_ => some k_ ≠ (v351 : Value).ownBlock ∧ some k_ ≠ (v317 : Value).ownBlock) ho0 (fun k_ hk_ => ⟨hk_.2, Or.elim hk_.1 (fun hs_ => fun e_ => ((((IsS72.apart HI314.out HO_321000.out (by decide))).1 k_ e_.symm).1) hs_) (fun hn_ => (Kd.fresh' (Kd.R_lt (by (with_reducible repeat (first | apply Kd.R_alloc | apply Kd.R_drewN | apply Kd.R_drew)); exact HO_321000.out)) k_ hn_))⟩)); have n5_ := Aside0.mk (Kd.R_mono (ok' := fun k_ => some k_ ≠ (v347 : Value).ownBlock ∧ some k_ ≠ (v317 : Value).ownBlock) ho1 (fun k_ hk_ => ⟨hk_.2, Or.elim hk_.1 (fun hs_ => fun e_ => ((((IsS72.apart HI314.out HO_321000.out (by decide))).1 k_ e_.symm).1) hs_) (fun hn_ => (Kd.fresh' (Kd.R_lt (by (with_reducible repeat (first | apply Kd.R_alloc | apply Kd.R_drewN | apply Kd.R_drew)); exact HO_321000.out)) k_ hn_))⟩)); have n6_ := Aside0.mk (hb); clear HO_321000; clear BK305; clear HI314; clear HI320; clear HB; clear HO331; have HO_321000 := n0_; have BK305 := n1_; have HI314 := n2_; have HI320 := n3_; have HO348 := n4_; have HO352 := n5_; have HB := n6_; clear n0_ n1_ n2_ n3_ n4_ n5_ n6_; (try clear hb); (try clear hkp); (try clear ho0); (try clear ho1); have hf490 := LMc41.out; have hf491 : decide ((rdOf ByteArray.empty ((rd_T26 l0 x3_1).f0) x7_4).size + 1 ≤ 9223372036854775807) = true := decide_eq_true hf490; have hf492 : (9223372036854775807 < (rdOf ByteArray.empty ((rd_T26 l0 x3_1).f0) x7_4).size + 1) = False := eq_false (Nat.not_lt.2 hf490)) | (go_at_call 8; (with_reducible refine (gangwaylaw22_num.calls t349 t354 _ A39.out).mono ?_); rintro e w' ⟨rfl, ⟨nd, rfl⟩⟩; (try first | exact ⟨rfl, _, World.drewN_drewN _ _ _⟩ | exact ⟨rfl, _, Eq.trans (World.drewN_drewN _ _ _) (congrArg (World.drewN _) (Nat.add_assoc _ _ _))⟩); have hcv50 := own_string (P := Try.prog) Try.underlying32 Try.underlying5 Try.underlying9 (Kd.own_of_R HO348.out); have hcv51 := fun nd_ : Nat => own_string (P := Try.prog) Try.underlying32 Try.underlying5 Try.underlying9 (Kd.own_of_R (Kd.R_drewN HO348.out nd_)); have hcz52_0 : w48.cell? ⟨gb305, 0, none⟩ = some (.slice (some ad345) ((rd_T26 l0 x3_1).f0).length c304_0) := (blk_cell BK305.out 0).trans rfl; have hcz52_1 : w48.cell? ⟨gb305, 1, none⟩ = some (.int .i64 ((rd_T26 l0 x3_1).f1)) := (blk_cell BK305.out 1).trans rfl; have hcz52_2 : w48.cell? ⟨gb305, 2, none⟩ = some (.int .i64 ((rd_T26 l0 x3_1).f2)) := (blk_cell BK305.out 2).trans rfl; have hfz52_0 := blk_frozen BK305.out 0; have hfz52_1 := blk_frozen BK305.out 1; have hfz52_2 := blk_frozen BK305.out 2; have p355 : 0 ≤ (x7_4 : Int) := of_decide_eq_true (by first | (with_reducible assumption) | assumption); have q355 : x7_4 < (((rd_T26 l0 x3_1).f0).length : Int) := of_decide_eq_true (by first | (with_reducible assumption) | assumption); obtain ⟨ad355, e355, hx355_0⟩ := Kd.at_string HR304_0.out x7_4 p355 q355; obtain rfl : ad345 = ad355 := (by injection e355); replace hx355_0 := (HB.out.cell (World.block_lt_of_cell? w _ hx355_0)).trans hx355_0; replace p355 := eq_true p355; replace q355 := eq_true q355)))
                                                go_roundg k4
                                                case measure => have := HK1.out; have := HJ1.out; have := HJ6.out; have := HK4.out; omega
                                                case rel => exact ⟨(wrap64 (x7_4 + 1)), (t350), (t353), (v351), (by first | rfl | (simp; done) | (simp [*]; done)), H', ⟨by have := HK1.out; have := HJ1.out; have := HJ6.out; have := HK4.out; omega⟩, ⟨by (with_reducible repeat (first | apply Kd.R_alloc | apply Kd.R_drewN | apply Kd.R_drew)); exact Kd.R_mono HO352.out (fun _ hk => hk.2)⟩, ⟨by (with_reducible repeat (first | apply Kd.R_alloc | apply Kd.R_drewN | apply Kd.R_drew)); exact Kd.R_mono HO_321000.out (fun _ hk => hk.2)⟩, ⟨by (with_reducible repeat (first | refine blk_drewN ?_ _ | refine blk_drew ?_ | refine blk_alloc ?_ _)); exact BK305.out⟩, ⟨by repeat (first | (with_reducible first | exact HI314.out | apply IsS72.alloc | apply IsS72.drewN | apply IsS72.drew | apply IsS72.set_0 | apply IsS72.set_1 | refine IsS72.far ?_ NB314_305.out _) | exact HI314.out)⟩, ⟨by repeat (first | (with_reducible first | exact HI320.out | apply IsS59.alloc | apply IsS59.drewN | apply IsS59.drew | apply IsS59.set_0 | apply IsS59.set_1 | refine IsS59.far ?_ NB320_305.out _) | exact HI320.out)⟩, ⟨by repeat (first | (with_reducible first | exact HB.out | apply below_alloc | apply pw_below_drewN | apply below_drew1 | refine below_set ?_ (IsS72.ge HI314.out) | refine below_set ?_ (IsS59.ge HI320.out) | refine below_set ?_ GE305.out) | exact HB.out)⟩⟩
                                              · rw [if_neg c42] at H
                                                exact absurd H (by simp)
                                            · rw [if_neg c41] at H
                                              exact absurd H (by simp)
                                          · rw [if_neg c40] at H
                                            exact absurd H (by simp)
                                        · rw [if_neg c37] at H
                                          exact absurd H (by simp)
                                  · rw [if_neg c34] at H
                                    exact absurd H (by simp)
                                · rw [if_neg c31] at H
                                  have c31b0 : decide (x7_4 < (((rd_T26 l0 x3_1).f0).length : Int)) = false := decide_eq_false c31
                                  clear c31
                                  have H' := Aside0.mk H
                                  clear H
                                  have hnb53 := NB305_314.out
                                  have hnc53 := NB314_305.out
                                  have hnb54 := NB305_320.out
                                  have hnc54 := NB320_305.out
                                  have hcz55_0 : wr.cell? ⟨gb305, 0, none⟩ = some (.slice A304_0 ((rd_T26 l0 x3_1).f0).length c304_0) := (blk_cell BK305.out 0).trans rfl
                                  have hcz55_1 : wr.cell? ⟨gb305, 1, none⟩ = some (.int .i64 ((rd_T26 l0 x3_1).f1)) := (blk_cell BK305.out 1).trans rfl
                                  have hcz55_2 : wr.cell? ⟨gb305, 2, none⟩ = some (.int .i64 ((rd_T26 l0 x3_1).f2)) := (blk_cell BK305.out 2).trans rfl
                                  have hfz55_0 := blk_frozen BK305.out 0
                                  have hfz55_1 := blk_frozen BK305.out 1
                                  have hfz55_2 := blk_frozen BK305.out 2
                                  go_wp2
                                  repeat (go_quiet (fail); try go_wp2)
                                  go_roundg k4
                                  case measure => have := HK1.out; have := HJ1.out; have := HJ6.out; have := HK4.out; omega
                                  case rel => exact ⟨(wrap64 (x3_1 + 1)), (by first | rfl | (simp; done) | (simp [*]; done)), H', ⟨by have := HK1.out; have := HJ1.out; have := HJ6.out; have := HK4.out; omega⟩, ⟨by repeat (first | (with_reducible first | exact HB.out | apply below_alloc | apply pw_below_drewN | apply below_drew1 | refine below_set ?_ (IsS72.ge HI314.out) | refine below_set ?_ (IsS59.ge HI320.out) | refine below_set ?_ GE305.out) | exact HB.out)⟩⟩
                          · rw [if_neg c25] at H
                            exact absurd H (by simp)
                        · replace c22 := Bool.eq_false_iff.mpr c22
                          subst c22
                          have H1 : (none) = some r := by rw [if_neg (show ¬ (false = true) by decide)] at H; exact H
                          clear H
                          have H := H1
                          clear H1
                          exact absurd H (by simp)
                      · replace c21 := Bool.eq_false_iff.mpr c21
                        subst c21
                        have H1 : (none) = some r := by rw [if_neg (show ¬ (false = true) by decide)] at H; exact H
                        clear H
                        have H := H1
                        clear H1
                        exact absurd H (by simp)
              · rw [if_neg c6] at H
                exact absurd H (by simp)
            · rw [if_neg c5] at H
              exact absurd H (by simp)
          · replace c4 := Bool.eq_false_iff.mpr c4
            subst c4
            have H1 : ((gangwaylaw22_wakes.f kj1).bind fun t303 => (some t303)) = some r := by rw [if_neg (show ¬ (false = true) by decide)] at H; exact H
            clear H
            have H := H1
            clear H1
            replace H := Option.bind_eq_some_iff.mp H
            obtain ⟨t303, A560, H⟩ := H
            replace H : (some t303) = some r := H
            have A56 := Aside0.mk A560
            clear A560
            obtain rfl := Option.some.inj H
            go_wp2_with (first | (go_at_call 11; (with_reducible refine (gangwaylaw22_wakes.calls kj1  t303 _ A56.out).mono ?_); rintro e w57 ⟨rfl, hb⟩; have n0_ := Aside0.mk (below_step (by repeat (first | (with_reducible first | exact HB.out | apply below_alloc | apply pw_below_drewN | apply below_drew1) | exact HB.out)) hb); clear HB; have HB := n0_; clear n0_; (try clear hb); (try clear hb2); (try clear hk); (try clear hi)))
            repeat (go_quiet (first | (go_at_call 11; (with_reducible refine (gangwaylaw22_wakes.calls kj1  t303 _ A56.out).mono ?_); rintro e w57 ⟨rfl, hb⟩; have n0_ := Aside0.mk (below_step (by repeat (first | (with_reducible first | exact HB.out | apply below_alloc | apply pw_below_drewN | apply below_drew1) | exact HB.out)) hb); clear HB; have HB := n0_; clear n0_; (try clear hb); (try clear hb2); (try clear hk); (try clear hi))); try go_wp2_with (first | (go_at_call 11; (with_reducible refine (gangwaylaw22_wakes.calls kj1  t303 _ A56.out).mono ?_); rintro e w57 ⟨rfl, hb⟩; have n0_ := Aside0.mk (below_step (by repeat (first | (with_reducible first | exact HB.out | apply below_alloc | apply pw_below_drewN | apply below_drew1) | exact HB.out)) hb); clear HB; have HB := n0_; clear n0_; (try clear hb); (try clear hb2); (try clear hk); (try clear hi))))
            go_ret
            exact ⟨by first | rfl | (simp [errW_none, errW_some] <;> rfl) | (simp [*, errW_none, errW_some] <;> rfl), by repeat (first | (with_reducible first | exact HB.out | apply below_alloc | apply pw_below_drewN | apply below_drew1) | exact HB.out)⟩

/-- THE ONE PURE STATEMENT of gangwaylaw22_EnvBack: yours. -/
def gangwaylaw22_EnvBack.Pure : Prop := ∀ (x0 : List (S26)), (x0.length * 40 ≤ 140737488351232 ∧ ∀ y362 ∈ x0, okT26 y362) → ∃ k, gangwaylaw22_EnvBack.f k x0 = some true
theorem gangwaylaw22_EnvBack.walk (P : gangwaylaw22_EnvBack.Pure) (w : World) (x0 : List (S26)) (A0 : Option Addr) (c0 : Nat) (hr0 : Kd.C k26 w A0 x0.length x0) (hc0 : x0.length ≤ c0) (hok0 : (x0.length * 40 ≤ 140737488351232 ∧ ∀ y363 ∈ x0, okT26 y363)) :
    Calls Try.prog 5 #[.slice A0 x0.length c0] w fun e w' => e = .returned (.bool true) ∧ Below w.heap.size w w' := by
  obtain ⟨k, h⟩ := P x0 hok0
  refine (gangwaylaw22_EnvBack.calls k _ _ x0 true w hr0 hc0 h).mono ?_
  rintro e w' ⟨rfl, hd⟩
  exact ⟨rfl, hd⟩

end Go.Proofs.Ytpaodfhhnhbacaa.PAll
