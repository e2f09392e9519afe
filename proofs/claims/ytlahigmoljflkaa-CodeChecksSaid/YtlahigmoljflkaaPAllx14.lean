/- Printed by a copy of the printer that was turned for this claim: functions as plain Lean functions, with proofs that their calls come to these; or words that such proofs use. -/
import Derived.Test.YtlahigmoljflkaaPAllx0
import Derived.Test.YtlahigmoljflkaaPAllx1
import Derived.Test.YtlahigmoljflkaaPAllx7
import Derived.Test.YtlahigmoljflkaaPAllx10
import Derived.Test.YtlahigmoljflkaaPAllx12
import Derived.Test.YtlahigmoljflkaaPAllx13
namespace Go.Proofs.Ytlahigmoljflkaa.PAll
open Go.RowKit Go.Proofs.YtlahigmoljflkaaW.PrintWords Go.Proofs.YtlahigmoljflkaaW.PrintLast Go.Proofs.YtlahigmoljflkaaW.PrintMore
attribute [local go_sem] max2_int min2_int max_two min_two max_three min_three max_four min_four   -- for this text's walks alone
set_option linter.unusedVariables false
set_option linter.unusedSimpArgs false

theorem gangwayref5_May.aa_0 {p : Prop} (h : p := by repeat (first | (with_reducible first | exact HB.out | apply below_alloc | apply pw_below_drewN | apply below_drew1) | exact HB.out)) : p := h
theorem gangwayref5_May.aa_1 {p : Prop} (h : p := by repeat (first | exact (Kd.C_below HR293_6.out HB.out) | (with_reducible refine Kd.C_alloc ?_ _) | (with_reducible refine Kd.C_drewN ?_ _) | (with_reducible refine Kd.C_drew ?_))) : p := h
theorem gangwayref5_May.aa_2 {p : Prop} (h : p := by repeat (first | exact (Kd.C_below HR293_7.out HB.out) | (with_reducible refine Kd.C_alloc ?_ _) | (with_reducible refine Kd.C_drewN ?_ _) | (with_reducible refine Kd.C_drew ?_))) : p := h
theorem gangwayref5_May.aa_3 {p : Prop} (h : p := by repeat (first | exact (Kd.C_below HR293_8.out HB.out) | (with_reducible refine Kd.C_alloc ?_ _) | (with_reducible refine Kd.C_drewN ?_ _) | (with_reducible refine Kd.C_drew ?_))) : p := h
theorem gangwayref5_May.am_ {p : Prop} (h : p) : Aside0 p := Aside0.mk h
theorem gangwayref5_May.bm_ {α β : Type _} {o : Option α} {f : α → Option β} {b : β} (h : o.bind f = some b) : ∃ a, o = some a ∧ f a = some b := Option.bind_eq_some_iff.mp h
set_option maxHeartbeats 8000000 in
set_option maxRecDepth 100000 in
theorem gangwayref5_May.calls (k : Nat) : ∀ (A0 : Option Addr) (c0 : Nat) (l0 : List (S45)) (a1 : Int) (r : Bool) (w : World) (hr0 : Kd.C k45 w A0 l0.length l0) (hc0 : l0.length ≤ c0) (h : gangwayref5_May.f k l0 a1 = some r),
  Calls Try.prog 19 #[.slice A0 l0.length c0, .int .i64 a1] w fun e w' => e = .returned (.bool r) ∧ Below w.heap.size w w' := by
 induction k using Nat.strongRecOn with
 | _ k ih =>
 intro A0 c0 l0 a1 r w hr0 hc0 h
 cases k with
 | zero => exact absurd h (by simp [gangwayref5_May.f])
 | succ k =>
 simp only [gangwayref5_May.f] at h
 have hu45 := Try.underlying45
 have HR0 := am_ hr0
 have HC0 := am_ hc0
 clear hr0 hc0
 have HB := am_ (Below.refl w.heap.size w)
 have H : (gangwayref5_May.l0 k l0 a1 0) = some r := h
 clear h
 have H' := am_ H
 clear H
 go_enter Try.func19, Try.ntmps19
 go_wp2
 go_loopg [5] k (fun kq v5 w' => ∃ (x5_1 : Int), v5 = .int .i64 x5_1 ∧ Aside0 (gangwayref5_May.l0 kq l0 a1 x5_1 = some r) ∧ Aside0 (kq ≤ k) ∧ Aside0 (Below w.heap.size w w'))
 case atStart => exact ⟨(0), (by first | rfl | (simp; done) | (simp [*]; done)), H', ⟨Nat.le_refl _⟩, ⟨aa_0⟩⟩
 case round =>
 clear H'
 obtain ⟨x5_1, rfl, HA, HK1, HB⟩ := hrel
 cases gk with
 | zero => exact absurd HA.out (by simp [gangwayref5_May.l0])
 | succ k1 =>
 have H := HA.out
 clear HA
 simp only [gangwayref5_May.l0] at H
 by_cases c3 : x5_1 < (l0.length : Int)
 rotate_left
 ·rw [if_neg c3] at H
  have c3b0 : decide (x5_1 < (l0.length : Int)) = false := decide_eq_false c3
  clear c3
  obtain rfl := Option.some.inj H
  go_wp2
  go_ret
  exact ⟨by first | rfl | (simp [errW_none, errW_some] <;> rfl) | (simp [*, errW_none, errW_some] <;> rfl), by repeat (first | (with_reducible first | exact HB.out | apply below_alloc | apply pw_below_drewN | apply below_drew1) | exact HB.out)⟩
 rw [if_pos c3] at H
 have c3b0 : decide (x5_1 < (l0.length : Int)) = true := decide_eq_true c3
 clear c3
 by_cases c4 : 0 ≤ x5_1
 rotate_left
 ·rw [if_neg c4] at H
  exact absurd H (by simp)
 rw [if_pos c4] at H
 have c4b0 : decide (0 ≤ x5_1) = true := decide_eq_true c4
 clear c4
 replace H := bm_ H
 obtain ⟨t294, A50, H⟩ := H
 replace H : (if t294 = true then (gangwayref5_May.l0 k1 l0 a1 (wrap64 (x5_1 + 1))) else (some false)) = some r := H
 have A5 := am_ A50
 clear A50
 by_cases c6 : t294 = true
 ·subst c6
  have H1 : (gangwayref5_May.l0 k1 l0 a1 (wrap64 (x5_1 + 1))) = some r := by rw [if_pos rfl] at H; exact H
  clear H
  have H := H1
  clear H1
  have H' := am_ H
  clear H
  have p293 : 0 ≤ (x5_1 : Int) := of_decide_eq_true (by first | (with_reducible assumption) | assumption)
  have q293 : x5_1 < (l0.length : Int) := of_decide_eq_true (by first | (with_reducible assumption) | assumption)
  obtain ⟨ad293, A293_6, c293_6, A293_7, c293_7, A293_8, c293_8, e293, hx293_0, hx293_1, hx293_2, hx293_3, hx293_4, hx293_5, hx293_6, hx293_7, hx293_8, hl293_6, hi293_6, hl293_7, hi293_7, hl293_8, hi293_8⟩ := at_T45 HR0.out x5_1 p293 q293
  cases e293
  replace hx293_0 := up HB hx293_0
  replace hx293_1 := up HB hx293_1
  replace hx293_2 := up HB hx293_2
  replace hx293_3 := up HB hx293_3
  replace hx293_4 := up HB hx293_4
  replace hx293_5 := up HB hx293_5
  replace hx293_6 := up HB hx293_6
  replace hx293_7 := up HB hx293_7
  replace hx293_8 := up HB hx293_8
  have HR293_6 := am_ hi293_6
  have HC293_6 := am_ hl293_6
  clear hi293_6 hl293_6
  have HR293_7 := am_ hi293_7
  have HC293_7 := am_ hl293_7
  clear hi293_7 hl293_7
  have HR293_8 := am_ hi293_8
  have HC293_8 := am_ hl293_8
  clear hi293_8 hl293_8
  replace p293 := eq_true p293
  replace q293 := eq_true q293
  go_wp2_with (first | ((with_reducible refine gate_dst (N := 15) rfl ?_); refine Go.Proofs.YtlahigmoljflkaaO.load_cells ?hg (N := 15) ?hd 45 (x := ?xo15_) ?ho (ad := ?ad15_) ?hx [.int .i64 ((rd_T45 l0 x5_1).f0), .int .i64 ((rd_T45 l0 x5_1).f1), .int .i64 ((rd_T45 l0 x5_1).f2), .int .i64 ((rd_T45 l0 x5_1).f3), .int .i64 ((rd_T45 l0 x5_1).f4), .int .i64 ((rd_T45 l0 x5_1).f5), .slice A293_6 ((rd_T45 l0 x5_1).f6).length c293_6, .slice A293_7 ((rd_T45 l0 x5_1).f7).length c293_7, .slice A293_8 ((rd_T45 l0 x5_1).f8).length c293_8] Try.underlying45 (by kernel_rfl) ?hc ?_; (case hd => rfl); (case hg => rfl); (case ho => rfl); (case hx => rfl); (case hc => exact ⟨hx293_0, hx293_1, hx293_2, hx293_3, hx293_4, hx293_5, hx293_6, hx293_7, hx293_8, trivial⟩)) | ((with_reducible refine gate_callee (f := 29) rfl ?_); refine goesL_ (some 17) rfl rfl Try.func29 (by kernel_rfl) rfl #[.agg #[.int .i64 ((rd_T45 l0 x5_1).f0), .int .i64 ((rd_T45 l0 x5_1).f1), .int .i64 ((rd_T45 l0 x5_1).f2), .int .i64 ((rd_T45 l0 x5_1).f3), .int .i64 ((rd_T45 l0 x5_1).f4), .int .i64 ((rd_T45 l0 x5_1).f5), .slice A293_6 ((rd_T45 l0 x5_1).f6).length c293_6, .slice A293_7 ((rd_T45 l0 x5_1).f7).length c293_7, .slice A293_8 ((rd_T45 l0 x5_1).f8).length c293_8], .int .i64 a1] rfl (by (try simp only [List.map_toArray, List.map_cons, List.map_nil]); first | done | rfl | (simp only [List.length_drop, List.length_take]; rfl)) ?_; (with_reducible refine (gangwayref5_May.q.step k1 (fun j_ hj_ => ih j_ (by have := HK1.out; omega)) ((rd_T45 l0 x5_1).f0) ((rd_T45 l0 x5_1).f1) ((rd_T45 l0 x5_1).f2) ((rd_T45 l0 x5_1).f3) ((rd_T45 l0 x5_1).f4) ((rd_T45 l0 x5_1).f5) _ _ ((rd_T45 l0 x5_1).f6) _ _ ((rd_T45 l0 x5_1).f7) _ _ ((rd_T45 l0 x5_1).f8) a1 true _ ?side1 ?side2 ?side3 ?side4 ?side5 ?side6 A5.out).mono ?_); (case side1 => exact aa_1); (case side2 => exact HC293_6.out); (case side3 => exact aa_2); (case side4 => exact HC293_7.out); (case side5 => exact aa_3); (case side6 => exact HC293_8.out); rintro e w7 ⟨rfl, hb⟩; refine ⟨_, rfl, ?_⟩; have n0_ := am_ (below_step (by repeat (first | (with_reducible first | exact HB.out | apply below_alloc | apply pw_below_drewN | apply below_drew1) | exact HB.out)) hb); clear HB; have HB := n0_; clear n0_; (try clear hb); (try clear hb2); (try clear hk); (try clear hi)))
  go_roundg k1
  case measure => have := HK1.out; omega
  case rel => exact ⟨(wrap64 (x5_1 + 1)), (by first | rfl | (simp; done) | (simp [*]; done)), H', ⟨by have := HK1.out; omega⟩, ⟨aa_0⟩⟩
 replace c6 := Bool.eq_false_iff.mpr c6
 subst c6
 have H1 : (some false) = some r := by rw [if_neg (show ¬ (false = true) by decide)] at H; exact H
 clear H
 have H := H1
 clear H1
 obtain rfl := Option.some.inj H
 have p293 : 0 ≤ (x5_1 : Int) := of_decide_eq_true (by first | (with_reducible assumption) | assumption)
 have q293 : x5_1 < (l0.length : Int) := of_decide_eq_true (by first | (with_reducible assumption) | assumption)
 obtain ⟨ad293, A293_6, c293_6, A293_7, c293_7, A293_8, c293_8, e293, hx293_0, hx293_1, hx293_2, hx293_3, hx293_4, hx293_5, hx293_6, hx293_7, hx293_8, hl293_6, hi293_6, hl293_7, hi293_7, hl293_8, hi293_8⟩ := at_T45 HR0.out x5_1 p293 q293
 cases e293
 replace hx293_0 := up HB hx293_0
 replace hx293_1 := up HB hx293_1
 replace hx293_2 := up HB hx293_2
 replace hx293_3 := up HB hx293_3
 replace hx293_4 := up HB hx293_4
 replace hx293_5 := up HB hx293_5
 replace hx293_6 := up HB hx293_6
 replace hx293_7 := up HB hx293_7
 replace hx293_8 := up HB hx293_8
 have HR293_6 := am_ hi293_6
 have HC293_6 := am_ hl293_6
 clear hi293_6 hl293_6
 have HR293_7 := am_ hi293_7
 have HC293_7 := am_ hl293_7
 clear hi293_7 hl293_7
 have HR293_8 := am_ hi293_8
 have HC293_8 := am_ hl293_8
 clear hi293_8 hl293_8
 replace p293 := eq_true p293
 replace q293 := eq_true q293
 go_wp2_with (first | ((with_reducible refine gate_dst (N := 15) rfl ?_); refine Go.Proofs.YtlahigmoljflkaaO.load_cells ?hg (N := 15) ?hd 45 (x := ?xo15_) ?ho (ad := ?ad15_) ?hx [.int .i64 ((rd_T45 l0 x5_1).f0), .int .i64 ((rd_T45 l0 x5_1).f1), .int .i64 ((rd_T45 l0 x5_1).f2), .int .i64 ((rd_T45 l0 x5_1).f3), .int .i64 ((rd_T45 l0 x5_1).f4), .int .i64 ((rd_T45 l0 x5_1).f5), .slice A293_6 ((rd_T45 l0 x5_1).f6).length c293_6, .slice A293_7 ((rd_T45 l0 x5_1).f7).length c293_7, .slice A293_8 ((rd_T45 l0 x5_1).f8).length c293_8] Try.underlying45 (by kernel_rfl) ?hc ?_; (case hd => rfl); (case hg => rfl); (case ho => rfl); (case hx => rfl); (case hc => exact ⟨hx293_0, hx293_1, hx293_2, hx293_3, hx293_4, hx293_5, hx293_6, hx293_7, hx293_8, trivial⟩)) | ((with_reducible refine gate_callee (f := 29) rfl ?_); refine goesL_ (some 17) rfl rfl Try.func29 (by kernel_rfl) rfl #[.agg #[.int .i64 ((rd_T45 l0 x5_1).f0), .int .i64 ((rd_T45 l0 x5_1).f1), .int .i64 ((rd_T45 l0 x5_1).f2), .int .i64 ((rd_T45 l0 x5_1).f3), .int .i64 ((rd_T45 l0 x5_1).f4), .int .i64 ((rd_T45 l0 x5_1).f5), .slice A293_6 ((rd_T45 l0 x5_1).f6).length c293_6, .slice A293_7 ((rd_T45 l0 x5_1).f7).length c293_7, .slice A293_8 ((rd_T45 l0 x5_1).f8).length c293_8], .int .i64 a1] rfl (by (try simp only [List.map_toArray, List.map_cons, List.map_nil]); first | done | rfl | (simp only [List.length_drop, List.length_take]; rfl)) ?_; (with_reducible refine (gangwayref5_May.q.step k1 (fun j_ hj_ => ih j_ (by have := HK1.out; omega)) ((rd_T45 l0 x5_1).f0) ((rd_T45 l0 x5_1).f1) ((rd_T45 l0 x5_1).f2) ((rd_T45 l0 x5_1).f3) ((rd_T45 l0 x5_1).f4) ((rd_T45 l0 x5_1).f5) _ _ ((rd_T45 l0 x5_1).f6) _ _ ((rd_T45 l0 x5_1).f7) _ _ ((rd_T45 l0 x5_1).f8) a1 false _ ?side1 ?side2 ?side3 ?side4 ?side5 ?side6 A5.out).mono ?_); (case side1 => exact aa_1); (case side2 => exact HC293_6.out); (case side3 => exact aa_2); (case side4 => exact HC293_7.out); (case side5 => exact aa_3); (case side6 => exact HC293_8.out); rintro e w8 ⟨rfl, hb⟩; refine ⟨_, rfl, ?_⟩; have n0_ := am_ (below_step (by repeat (first | (with_reducible first | exact HB.out | apply below_alloc | apply pw_below_drewN | apply below_drew1) | exact HB.out)) hb); clear HB; have HB := n0_; clear n0_; (try clear hb); (try clear hb2); (try clear hk); (try clear hi)))
 go_ret
 exact ⟨by first | rfl | (simp [errW_none, errW_some] <;> rfl) | (simp [*, errW_none, errW_some] <;> rfl), by repeat (first | (with_reducible first | exact HB.out | apply below_alloc | apply pw_below_drewN | apply below_drew1) | exact HB.out)⟩
theorem gangwayref5_May.q.calls (k : Nat) : ∀ (a0_0 : Int) (a0_1 : Int) (a0_2 : Int) (a0_3 : Int) (a0_4 : Int) (a0_5 : Int) (A0_6 : Option Addr) (c0_6 : Nat) (l0_6 : List Int) (A0_7 : Option Addr) (c0_7 : Nat) (l0_7 : List (S45)) (A0_8 : Option Addr) (c0_8 : Nat) (l0_8 : List (S45)) (a1 : Int) (r : Bool) (w : World) (hr0_6 : Kd.C (Kd.int .i64) w A0_6 l0_6.length l0_6) (hc0_6 : l0_6.length ≤ c0_6) (hr0_7 : Kd.C k45 w A0_7 l0_7.length l0_7) (hc0_7 : l0_7.length ≤ c0_7) (hr0_8 : Kd.C k45 w A0_8 l0_8.length l0_8) (hc0_8 : l0_8.length ≤ c0_8) (h : gangwayref5_May.q.f k a0_0 a0_1 a0_2 a0_3 a0_4 a0_5 l0_6 l0_7 l0_8 a1 = some r),
  Calls Try.prog 29 #[.agg #[.int .i64 a0_0, .int .i64 a0_1, .int .i64 a0_2, .int .i64 a0_3, .int .i64 a0_4, .int .i64 a0_5, .slice A0_6 l0_6.length c0_6, .slice A0_7 l0_7.length c0_7, .slice A0_8 l0_8.length c0_8], .int .i64 a1] w fun e w' => e = .returned (.bool r) ∧ Below w.heap.size w w' := gangwayref5_May.q.step k (fun j_ _ => gangwayref5_May.calls j_)

theorem gangwaylaw5_CodeChecks.up {w w' : World} {a : Addr} {v : Value} (hb : Aside0 (Below w.heap.size w w')) (h : w.cell? a = some v) : w'.cell? a = some v := (hb.out.cell (World.block_lt_of_cell? w _ h)).trans h
mutual
def gangwaylaw5_CodeChecks.l0 : Nat → List (S26) → Int → Option (Bool)
 | 0, _, _ => none
 | k + 1, x0, x3 => if x3 < (x0.length : Int) then (gangwaylaw5_CodeChecks.j1 k x0 x3 (decide (x3 < 10))) else (gangwaylaw5_CodeChecks.j1 k x0 x3 false)
def gangwaylaw5_CodeChecks.j1 : Nat → List (S26) → Int → Bool → Option (Bool)
 | 0, _, _, _ => none
 | k + 1, x0, x3, x12 => if x12 = true then (if 0 ≤ x3 then (if x3 < (x0.length : Int) then ((gangwaylaw5_heavy.f k ((rd_T26 x0 x3).f0) ((rd_T26 x0 x3).f1)).bind fun t297 => (if t297 = true then (some true) else ((code_Check.f k ((rd_T26 x0 x3).f0)).bind fun t299 => ((gangwaylaw5_num.f t299).bind fun t300 => ((gangwayref5_May.f k ((rd_T26 x0 x3).f0) 40).bind fun t302 => (if ((t300 == 0) != t302) = true then (none) else (if t300 = 0 then (gangwaylaw5_CodeChecks.l0 k x0 (wrap64 (x3 + 1))) else ((code_Check.f k ((rd_T26 x0 x3).f0)).bind fun t304 => ((gangwaylaw5_num.f t304).bind fun t305 => (if t305 = 100 then (gangwaylaw5_CodeChecks.l0 k x0 (wrap64 (x3 + 1))) else (none))))))))))) else (none)) else (none)) else ((gangwaylaw5_wakes.f k).bind fun t295 => (some t295))
end
def gangwaylaw5_CodeChecks.f (k : Nat) (l0 : List (S26)) : Option (Bool) := gangwaylaw5_CodeChecks.l0 k l0 0
theorem gangwaylaw5_CodeChecks.mono_l : ∀ k, (∀ y0 y1, LeO (gangwaylaw5_CodeChecks.l0 k y0 y1) (gangwaylaw5_CodeChecks.l0 (k + 1) y0 y1)) ∧ (∀ y0 y1 y2, LeO (gangwaylaw5_CodeChecks.j1 k y0 y1 y2) (gangwaylaw5_CodeChecks.j1 (k + 1) y0 y1 y2))
 | 0 => ⟨fun _ _ r h => by simp [gangwaylaw5_CodeChecks.l0] at h, fun _ _ _ r h => by simp [gangwaylaw5_CodeChecks.j1] at h⟩
 | k + 1 => by
  obtain ⟨ih0, ih1⟩ := gangwaylaw5_CodeChecks.mono_l k
  refine ⟨?_, ?_⟩
  ·intro y0 y1
   unfold gangwaylaw5_CodeChecks.l0
   repeat' first
   | (with_reducible apply ih0)
   | (with_reducible apply ih1)
   | (with_reducible exact code_Check.mono _ _)
   | (with_reducible exact gangwaylaw5_heavy.mono _ _ _)
   | (with_reducible exact gangwaylaw5_wakes.mono _)
   | (with_reducible exact gangwayref5_May.mono _ _ _)
   | (with_reducible exact LeO.refl _)
   | (with_reducible exact LeO.none _)
   | (with_reducible refine LeO.ite ?_ ?_)
   | (with_reducible refine LeO.bind ?_ (fun _ => ?_))
   | apply ih0
   | apply ih1
   | exact code_Check.mono _ _
   | exact gangwaylaw5_heavy.mono _ _ _
   | exact gangwaylaw5_wakes.mono _
   | exact gangwayref5_May.mono _ _ _
   | exact LeO.none _
   | refine LeO.ite ?_ ?_
   | refine LeO.bind ?_ (fun _ => ?_)
  ·intro y0 y1 y2
   unfold gangwaylaw5_CodeChecks.j1
   repeat' first
   | (with_reducible apply ih0)
   | (with_reducible apply ih1)
   | (with_reducible exact code_Check.mono _ _)
   | (with_reducible exact gangwaylaw5_heavy.mono _ _ _)
   | (with_reducible exact gangwaylaw5_wakes.mono _)
   | (with_reducible exact gangwayref5_May.mono _ _ _)
   | (with_reducible exact LeO.refl _)
   | (with_reducible exact LeO.none _)
   | (with_reducible refine LeO.ite ?_ ?_)
   | (with_reducible refine LeO.bind ?_ (fun _ => ?_))
   | apply ih0
   | apply ih1
   | exact code_Check.mono _ _
   | exact gangwaylaw5_heavy.mono _ _ _
   | exact gangwaylaw5_wakes.mono _
   | exact gangwayref5_May.mono _ _ _
   | exact LeO.none _
   | refine LeO.ite ?_ ?_
   | refine LeO.bind ?_ (fun _ => ?_)
theorem gangwaylaw5_CodeChecks.mono : ∀ a0 k, LeO (gangwaylaw5_CodeChecks.f k a0) (gangwaylaw5_CodeChecks.f (k + 1) a0) := by
 intro a0 k
 obtain ⟨ih0, ih1⟩ := gangwaylaw5_CodeChecks.mono_l k
 unfold gangwaylaw5_CodeChecks.f
 repeat' first
   | (with_reducible apply ih0)
   | (with_reducible apply ih1)
   | (with_reducible exact code_Check.mono _ _)
   | (with_reducible exact gangwaylaw5_heavy.mono _ _ _)
   | (with_reducible exact gangwaylaw5_wakes.mono _)
   | (with_reducible exact gangwayref5_May.mono _ _ _)
   | (with_reducible exact LeO.refl _)
   | (with_reducible exact LeO.none _)
   | (with_reducible refine LeO.ite ?_ ?_)
   | (with_reducible refine LeO.bind ?_ (fun _ => ?_))
   | apply ih0
   | apply ih1
   | exact code_Check.mono _ _
   | exact gangwaylaw5_heavy.mono _ _ _
   | exact gangwaylaw5_wakes.mono _
   | exact gangwayref5_May.mono _ _ _
   | exact LeO.none _
   | refine LeO.ite ?_ ?_
   | refine LeO.bind ?_ (fun _ => ?_)
theorem gangwaylaw5_CodeChecks.aa_0 {p : Prop} (h : p := by repeat (first | (with_reducible first | exact HB.out | apply below_alloc | apply pw_below_drewN | apply below_drew1) | exact HB.out)) : p := h
theorem gangwaylaw5_CodeChecks.aa_1 {p : Prop} (h : p := by (try simp only [List.map_toArray, List.map_cons, List.map_nil]); first | done | rfl | (simp only [List.length_drop, List.length_take]; rfl)) : p := h
theorem gangwaylaw5_CodeChecks.aa_2 {p : Prop} (h : p := by first | (with_reducible assumption) | assumption) : p := h
theorem gangwaylaw5_CodeChecks.aa_3 {p : Prop} (h : p := by repeat (first | exact (Kd.C_below HR296_0.out HB.out) | (with_reducible refine Kd.C_alloc ?_ _) | (with_reducible refine Kd.C_drewN ?_ _) | (with_reducible refine Kd.C_drew ?_))) : p := h
theorem gangwaylaw5_CodeChecks.aa_4 {p : Prop} (h : p := by repeat (first | exact (Kd.C_below HR296_1.out HB.out) | (with_reducible refine Kd.C_alloc ?_ _) | (with_reducible refine Kd.C_drewN ?_ _) | (with_reducible refine Kd.C_drew ?_))) : p := h
theorem gangwaylaw5_CodeChecks.aa_5 {p : Prop} (h : p := by repeat (first | exact (Kd.C_below HR298_0.out HB.out) | (with_reducible refine Kd.C_alloc ?_ _) | (with_reducible refine Kd.C_drewN ?_ _) | (with_reducible refine Kd.C_drew ?_))) : p := h
theorem gangwaylaw5_CodeChecks.aa_6 {p : Prop} (h : p := by repeat (first | exact (Kd.C_below HR301_0.out aa_0) | (with_reducible refine Kd.C_alloc ?_ _) | (with_reducible refine Kd.C_drewN ?_ _) | (with_reducible refine Kd.C_drew ?_))) : p := h
theorem gangwaylaw5_CodeChecks.am_ {p : Prop} (h : p) : Aside0 p := Aside0.mk h
theorem gangwaylaw5_CodeChecks.bm_ {α β : Type _} {o : Option α} {f : α → Option β} {b : β} (h : o.bind f = some b) : ∃ a, o = some a ∧ f a = some b := Option.bind_eq_some_iff.mp h
set_option maxHeartbeats 8000000 in
set_option maxRecDepth 100000 in
theorem gangwaylaw5_CodeChecks.calls (k : Nat) (A0 : Option Addr) (c0 : Nat) (l0 : List (S26)) (r : Bool) (w : World) (hr0 : Kd.C k26 w A0 l0.length l0) (hc0 : l0.length ≤ c0) (h : gangwaylaw5_CodeChecks.f k l0 = some r) :
  Calls Try.prog 4 #[.slice A0 l0.length c0] w fun e w' => e = .returned (.bool r) ∧ Below w.heap.size w w' := by
 have hu26 := Try.underlying26
 have HR0 := am_ hr0
 have HC0 := am_ hc0
 clear hr0 hc0
 have HB := am_ (Below.refl w.heap.size w)
 have H : (gangwaylaw5_CodeChecks.l0 k l0 0) = some r := h
 clear h
 have H' := am_ H
 clear H
 go_enter Try.func4, Try.ntmps4
 go_wp2
 go_loopg [3] k (fun kq v3 w' => ∃ (x3_1 : Int), v3 = .int .i64 x3_1 ∧ Aside0 (gangwaylaw5_CodeChecks.l0 kq l0 x3_1 = some r) ∧ Aside0 (kq ≤ k) ∧ Aside0 (Below w.heap.size w w'))
 case atStart => exact ⟨(0), (by first | rfl | (simp; done) | (simp [*]; done)), H', ⟨Nat.le_refl _⟩, ⟨aa_0⟩⟩
 case round =>
 clear H'
 obtain ⟨x3_1, rfl, HA, HK1, HB⟩ := hrel
 cases gk with
 | zero => exact absurd HA.out (by simp [gangwaylaw5_CodeChecks.l0])
 | succ k1 =>
 have H := HA.out
 clear HA
 simp only [gangwaylaw5_CodeChecks.l0] at H
 have HC2 := am_ H
 clear H
 go_upto_region 2 with (fail)
 go_cut [12] (fun v12 wc => ∃ (kq : Nat) (x12_1 : Bool), v12 = .bool x12_1 ∧ Aside0 (j1 kq l0 x3_1 x12_1 = some r) ∧ Aside0 (kq ≤ k1) ∧ Aside0 (Below w.heap.size w wc))
 case first =>
  have H := HC2.out
  clear HC2
  by_cases c3 : x3_1 < (l0.length : Int)
  ·rw [if_pos c3] at H
   have c3b0 : decide (x3_1 < (l0.length : Int)) = true := decide_eq_true c3
   clear c3
   (first | rw [c3b0] | (simp only [i64_w, i32_w]; rw [c3b0]) | skip)
   have H' := am_ H
   clear H
   go_wp2
   go_meet
   case rel => exact ⟨_, (decide (x3_1 < 10)), (by first | rfl | (simp; done) | (simp [*]; done)), H', ⟨by have := HK1.out; first | omega | exact Nat.le_refl _⟩, ⟨aa_0⟩⟩
  rw [if_neg c3] at H
  have c3b0 : decide (x3_1 < (l0.length : Int)) = false := decide_eq_false c3
  clear c3
  (first | rw [c3b0] | (simp only [i64_w, i32_w]; rw [c3b0]) | skip)
  have H' := am_ H
  clear H
  go_wp2
  go_meet
  case rel => exact ⟨_, (false), (by first | rfl | (simp; done) | (simp [*]; done)), H', ⟨by have := HK1.out; first | omega | exact Nat.le_refl _⟩, ⟨aa_0⟩⟩
 case rest =>
 clear HC2
 obtain ⟨kq, x12_1, rfl, HA, HJ1, HB⟩ := hcut
 cases kq with
 | zero => exact absurd HA.out (by simp [j1])
 | succ kj1 =>
 have H := HA.out
 clear HA
 simp only [j1] at H
 by_cases c4 : x12_1 = true
 rotate_left
 ·replace c4 := Bool.eq_false_iff.mpr c4
  subst c4
  have H1 : ((gangwaylaw5_wakes.f kj1).bind fun t295 => (some t295)) = some r := by rw [if_neg (show ¬ (false = true) by decide)] at H; exact H
  clear H
  have H := H1
  clear H1
  replace H := bm_ H
  obtain ⟨t295, A250, H⟩ := H
  replace H : (some t295) = some r := H
  have A25 := am_ A250
  clear A250
  obtain rfl := Option.some.inj H
  go_wp2_with (first | ((with_reducible refine gate_callee (f := 17) rfl ?_); refine goesL_ (some 50) rfl rfl Try.func17 (by kernel_rfl) rfl #[] rfl aa_1 ?_; (with_reducible refine (gangwaylaw5_wakes.calls kj1  t295 _ A25.out).mono ?_); rintro e w26 ⟨rfl, hb⟩; refine ⟨_, rfl, ?_⟩; have n0_ := am_ (below_step aa_0 hb); clear HB; have HB := n0_; clear n0_; (try clear hb); (try clear hb2); (try clear hk); (try clear hi)))
  go_ret
  exact ⟨by first | rfl | (simp [errW_none, errW_some] <;> rfl) | (simp [*, errW_none, errW_some] <;> rfl), by repeat (first | (with_reducible first | exact HB.out | apply below_alloc | apply pw_below_drewN | apply below_drew1) | exact HB.out)⟩
 subst c4
 have H1 : (if 0 ≤ x3_1 then (if x3_1 < (l0.length : Int) then ((gangwaylaw5_heavy.f kj1 ((rd_T26 l0 x3_1).f0) ((rd_T26 l0 x3_1).f1)).bind fun t297 => (if t297 = true then (some true) else ((code_Check.f kj1 ((rd_T26 l0 x3_1).f0)).bind fun t299 => ((gangwaylaw5_num.f t299).bind fun t300 => ((gangwayref5_May.f kj1 ((rd_T26 l0 x3_1).f0) 40).bind fun t302 => (if ((t300 == 0) != t302) = true then (none) else (if t300 = 0 then (gangwaylaw5_CodeChecks.l0 kj1 l0 (wrap64 (x3_1 + 1))) else ((code_Check.f kj1 ((rd_T26 l0 x3_1).f0)).bind fun t304 => ((gangwaylaw5_num.f t304).bind fun t305 => (if t305 = 100 then (gangwaylaw5_CodeChecks.l0 kj1 l0 (wrap64 (x3_1 + 1))) else (none))))))))))) else (none)) else (none)) = some r := by rw [if_pos rfl] at H; exact H
 clear H
 have H := H1
 clear H1
 by_cases c5 : 0 ≤ x3_1
 rotate_left
 ·rw [if_neg c5] at H
  exact absurd H (by simp)
 rw [if_pos c5] at H
 have c5b0 : decide (0 ≤ x3_1) = true := decide_eq_true c5
 clear c5
 by_cases c6 : x3_1 < (l0.length : Int)
 rotate_left
 ·rw [if_neg c6] at H
  exact absurd H (by simp)
 rw [if_pos c6] at H
 have c6b0 : decide (x3_1 < (l0.length : Int)) = true := decide_eq_true c6
 clear c6
 replace H := bm_ H
 obtain ⟨t297, A70, H⟩ := H
 replace H : (if t297 = true then (some true) else ((code_Check.f kj1 ((rd_T26 l0 x3_1).f0)).bind fun t299 => ((gangwaylaw5_num.f t299).bind fun t300 => ((gangwayref5_May.f kj1 ((rd_T26 l0 x3_1).f0) 40).bind fun t302 => (if ((t300 == 0) != t302) = true then (none) else (if t300 = 0 then (gangwaylaw5_CodeChecks.l0 kj1 l0 (wrap64 (x3_1 + 1))) else ((code_Check.f kj1 ((rd_T26 l0 x3_1).f0)).bind fun t304 => ((gangwaylaw5_num.f t304).bind fun t305 => (if t305 = 100 then (gangwaylaw5_CodeChecks.l0 kj1 l0 (wrap64 (x3_1 + 1))) else (none)))))))))) = some r := H
 have A7 := am_ A70
 clear A70
 by_cases c8 : t297 = true
 ·subst c8
  have H1 : (some true) = some r := by rw [if_pos rfl] at H; exact H
  clear H
  have H := H1
  clear H1
  obtain rfl := Option.some.inj H
  have p296 : 0 ≤ (x3_1 : Int) := of_decide_eq_true aa_2
  have q296 : x3_1 < (l0.length : Int) := of_decide_eq_true aa_2
  obtain ⟨ad296, A296_0, c296_0, A296_1, c296_1, e296, hx296_0, hx296_1, hl296_0, hi296_0, hl296_1, hi296_1⟩ := at_T26 HR0.out x3_1 p296 q296
  cases e296
  replace hx296_0 := up HB hx296_0
  replace hx296_1 := up HB hx296_1
  have HR296_0 := am_ hi296_0
  have HC296_0 := am_ hl296_0
  clear hi296_0 hl296_0
  have HR296_1 := am_ hi296_1
  have HC296_1 := am_ hl296_1
  clear hi296_1 hl296_1
  replace p296 := eq_true p296
  replace q296 := eq_true q296
  go_wp2_with (first | ((with_reducible refine gate_callee (f := 9) rfl ?_); refine goesL_ (some 19) rfl rfl Try.func9 (by kernel_rfl) rfl #[.agg #[.slice A296_0 ((rd_T26 l0 x3_1).f0).length c296_0, .slice A296_1 ((rd_T26 l0 x3_1).f1).length c296_1]] rfl aa_1 ?_; (with_reducible refine (gangwaylaw5_heavy.calls kj1 _ _ ((rd_T26 l0 x3_1).f0) _ _ ((rd_T26 l0 x3_1).f1) true _ ?side1 ?side2 ?side3 ?side4 A7.out).mono ?_); (case side1 => exact aa_3); (case side2 => exact HC296_0.out); (case side3 => exact aa_4); (case side4 => exact HC296_1.out); rintro e w9 ⟨rfl, hb⟩; refine ⟨_, rfl, ?_⟩; have n0_ := am_ (below_step aa_0 hb); clear HB; have HB := n0_; clear n0_; (try clear hb); (try clear hb2); (try clear hk); (try clear hi)))
  go_ret
  exact ⟨by first | rfl | (simp [errW_none, errW_some] <;> rfl) | (simp [*, errW_none, errW_some] <;> rfl), by repeat (first | (with_reducible first | exact HB.out | apply below_alloc | apply pw_below_drewN | apply below_drew1) | exact HB.out)⟩
 replace c8 := Bool.eq_false_iff.mpr c8
 subst c8
 have H1 : ((code_Check.f kj1 ((rd_T26 l0 x3_1).f0)).bind fun t299 => ((gangwaylaw5_num.f t299).bind fun t300 => ((gangwayref5_May.f kj1 ((rd_T26 l0 x3_1).f0) 40).bind fun t302 => (if ((t300 == 0) != t302) = true then (none) else (if t300 = 0 then (gangwaylaw5_CodeChecks.l0 kj1 l0 (wrap64 (x3_1 + 1))) else ((code_Check.f kj1 ((rd_T26 l0 x3_1).f0)).bind fun t304 => ((gangwaylaw5_num.f t304).bind fun t305 => (if t305 = 100 then (gangwaylaw5_CodeChecks.l0 kj1 l0 (wrap64 (x3_1 + 1))) else (none))))))))) = some r := by rw [if_neg (show ¬ (false = true) by decide)] at H; exact H
 clear H
 have H := H1
 clear H1
 replace H := bm_ H
 obtain ⟨t299, A100, H⟩ := H
 replace H : ((gangwaylaw5_num.f t299).bind fun t300 => ((gangwayref5_May.f kj1 ((rd_T26 l0 x3_1).f0) 40).bind fun t302 => (if ((t300 == 0) != t302) = true then (none) else (if t300 = 0 then (gangwaylaw5_CodeChecks.l0 kj1 l0 (wrap64 (x3_1 + 1))) else ((code_Check.f kj1 ((rd_T26 l0 x3_1).f0)).bind fun t304 => ((gangwaylaw5_num.f t304).bind fun t305 => (if t305 = 100 then (gangwaylaw5_CodeChecks.l0 kj1 l0 (wrap64 (x3_1 + 1))) else (none)))))))) = some r := H
 have A10 := am_ A100
 clear A100
 replace H := bm_ H
 obtain ⟨t300, A110, H⟩ := H
 replace H : ((gangwayref5_May.f kj1 ((rd_T26 l0 x3_1).f0) 40).bind fun t302 => (if ((t300 == 0) != t302) = true then (none) else (if t300 = 0 then (gangwaylaw5_CodeChecks.l0 kj1 l0 (wrap64 (x3_1 + 1))) else ((code_Check.f kj1 ((rd_T26 l0 x3_1).f0)).bind fun t304 => ((gangwaylaw5_num.f t304).bind fun t305 => (if t305 = 100 then (gangwaylaw5_CodeChecks.l0 kj1 l0 (wrap64 (x3_1 + 1))) else (none))))))) = some r := H
 have A11 := am_ A110
 clear A110
 replace H := bm_ H
 obtain ⟨t302, A120, H⟩ := H
 replace H : (if ((t300 == 0) != t302) = true then (none) else (if t300 = 0 then (gangwaylaw5_CodeChecks.l0 kj1 l0 (wrap64 (x3_1 + 1))) else ((code_Check.f kj1 ((rd_T26 l0 x3_1).f0)).bind fun t304 => ((gangwaylaw5_num.f t304).bind fun t305 => (if t305 = 100 then (gangwaylaw5_CodeChecks.l0 kj1 l0 (wrap64 (x3_1 + 1))) else (none)))))) = some r := H
 have A12 := am_ A120
 clear A120
 by_cases c13 : ((t300 == 0) != t302) = true
 ·rw [if_pos c13] at H
  exact absurd H (by simp)
 rw [if_neg c13] at H
 have c13b0 : ((t300 == 0) != t302) = false := by simpa using c13
 (try (have c13b1 : decide ((t300 == 0) = t302) = true := by simpa using c13))
 (try (have c13b2 : ((t300 == 0) == t302) = true := by simpa using c13))
 clear c13
 by_cases c14 : t300 = 0
 ·rw [if_pos c14] at H
  have c14b0 : (t300 == 0) = true := beq_iff_eq.mpr c14
  have c14b1 : (t300 != 0) = false := bne_eq_false_iff_eq.mpr c14
  have c13c : t302 = true := by rw [c14b0] at c13b0; revert c13b0; cases t302 <;> decide
  have c13d : (true != t302) = false := by rw [c13c]; rfl
  have c13e : (!t302) = false := by rw [c13c]; rfl
  have c13f : (true == t302) = true := by rw [c13c]; rfl
  clear c14
  have H' := am_ H
  clear H
  have p296 : 0 ≤ (x3_1 : Int) := of_decide_eq_true aa_2
  have q296 : x3_1 < (l0.length : Int) := of_decide_eq_true aa_2
  obtain ⟨ad296, A296_0, c296_0, A296_1, c296_1, e296, hx296_0, hx296_1, hl296_0, hi296_0, hl296_1, hi296_1⟩ := at_T26 HR0.out x3_1 p296 q296
  cases e296
  replace hx296_0 := up HB hx296_0
  replace hx296_1 := up HB hx296_1
  have HR296_0 := am_ hi296_0
  have HC296_0 := am_ hl296_0
  clear hi296_0 hl296_0
  have HR296_1 := am_ hi296_1
  have HC296_1 := am_ hl296_1
  clear hi296_1 hl296_1
  replace p296 := eq_true p296
  replace q296 := eq_true q296
  go_wp2_with (first | ((with_reducible refine gate_callee (f := 9) rfl ?_); refine goesL_ (some 19) rfl rfl Try.func9 (by kernel_rfl) rfl #[.agg #[.slice A296_0 ((rd_T26 l0 x3_1).f0).length c296_0, .slice A296_1 ((rd_T26 l0 x3_1).f1).length c296_1]] rfl aa_1 ?_; (with_reducible refine (gangwaylaw5_heavy.calls kj1 _ _ ((rd_T26 l0 x3_1).f0) _ _ ((rd_T26 l0 x3_1).f1) false _ ?side1 ?side2 ?side3 ?side4 A7.out).mono ?_); (case side1 => exact aa_3); (case side2 => exact HC296_0.out); (case side3 => exact aa_4); (case side4 => exact HC296_1.out); rintro e w15 ⟨rfl, hb⟩; refine ⟨_, rfl, ?_⟩; have n0_ := am_ (below_step aa_0 hb); clear HB; have HB := n0_; clear n0_; (try clear hb); (try clear hb2); (try clear hk); (try clear hi); have p298 : 0 ≤ (x3_1 : Int) := of_decide_eq_true aa_2; have q298 : x3_1 < (l0.length : Int) := of_decide_eq_true aa_2; obtain ⟨ad298, A298_0, c298_0, A298_1, c298_1, e298, hx298_0, hx298_1, hl298_0, hi298_0, hl298_1, hi298_1⟩ := at_T26 HR0.out x3_1 p298 q298; obtain rfl : ad296 = ad298 := (by injection e298); replace hx298_0 := up HB hx298_0; replace hx298_1 := up HB hx298_1; have HR298_0 := am_ hi298_0; have HC298_0 := am_ hl298_0; clear hi298_0 hl298_0; have HR298_1 := am_ hi298_1; have HC298_1 := am_ hl298_1; clear hi298_1 hl298_1; replace p298 := eq_true p298; replace q298 := eq_true q298) | ((with_reducible refine gate_callee (f := 18) rfl ?_); refine goesL_ (some 25) rfl rfl Try.func18 (by kernel_rfl) rfl #[.slice A298_0 ((rd_T26 l0 x3_1).f0).length c298_0] rfl aa_1 ?_; (with_reducible refine (code_Check.calls kj1 _ _ ((rd_T26 l0 x3_1).f0) t299 _ ?side1 ?side2 A10.out).mono ?_); (case side1 => exact aa_5); (case side2 => exact HC298_0.out); rintro e w16 ⟨rfl, hb⟩; refine ⟨_, rfl, ?_⟩; have n0_ := am_ (below_step aa_0 hb); clear HB; have HB := n0_; clear n0_; (try clear hb); (try clear hb2); (try clear hk); (try clear hi)) | ((with_reducible refine gate_callee (f := 13) rfl ?_); refine goesL_ (some 26) rfl rfl Try.func13 (by kernel_rfl) rfl #[.int .i64 t299] rfl aa_1 ?_; (with_reducible refine (gangwaylaw5_num.calls t299 t300 _ A11.out).mono ?_); rintro e w' ⟨rfl, ⟨nd, rfl⟩⟩; refine ⟨_, rfl, ?_⟩; have p301 : 0 ≤ (x3_1 : Int) := of_decide_eq_true aa_2; have q301 : x3_1 < (l0.length : Int) := of_decide_eq_true aa_2; obtain ⟨ad301, A301_0, c301_0, A301_1, c301_1, e301, hx301_0, hx301_1, hl301_0, hi301_0, hl301_1, hi301_1⟩ := at_T26 HR0.out x3_1 p301 q301; obtain rfl : ad296 = ad301 := (by injection e301); replace hx301_0 := up HB hx301_0; replace hx301_1 := up HB hx301_1; have HR301_0 := am_ hi301_0; have HC301_0 := am_ hl301_0; clear hi301_0 hl301_0; have HR301_1 := am_ hi301_1; have HC301_1 := am_ hl301_1; clear hi301_1 hl301_1; replace p301 := eq_true p301; replace q301 := eq_true q301) | ((with_reducible refine gate_callee (f := 19) rfl ?_); refine goesL_ (some 34) rfl rfl Try.func19 (by kernel_rfl) rfl #[.slice A301_0 ((rd_T26 l0 x3_1).f0).length c301_0, .int .i64 40] rfl aa_1 ?_; (with_reducible refine (gangwayref5_May.calls kj1 _ _ ((rd_T26 l0 x3_1).f0) 40 t302 _ ?side1 ?side2 A12.out).mono ?_); (case side1 => exact aa_6); (case side2 => exact HC301_0.out); rintro e w17 ⟨rfl, hb⟩; refine ⟨_, rfl, ?_⟩; have n0_ := am_ (below_step aa_0 hb); clear HB; have HB := n0_; clear n0_; (try clear hb); (try clear hb2); (try clear hk); (try clear hi)))
  go_roundg kj1
  case measure => have := HK1.out; have := HJ1.out; omega
  case rel => exact ⟨(wrap64 (x3_1 + 1)), (by first | rfl | (simp; done) | (simp [*]; done)), H', ⟨by have := HK1.out; have := HJ1.out; omega⟩, ⟨aa_0⟩⟩
 rw [if_neg c14] at H
 have c14b0 : (t300 == 0) = false := beq_eq_false_iff_ne.mpr c14
 have c14b1 : (t300 != 0) = true := bne_iff_ne.mpr c14
 have c13c : t302 = false := by rw [c14b0] at c13b0; revert c13b0; cases t302 <;> decide
 have c13d : (false != t302) = false := by rw [c13c]; rfl
 have c13f : (false == t302) = true := by rw [c13c]; rfl
 replace H := bm_ H
 obtain ⟨t304, A180, H⟩ := H
 replace H : ((gangwaylaw5_num.f t304).bind fun t305 => (if t305 = 100 then (gangwaylaw5_CodeChecks.l0 kj1 l0 (wrap64 (x3_1 + 1))) else (none))) = some r := H
 have A18 := am_ A180
 clear A180
 replace H := bm_ H
 obtain ⟨t305, A190, H⟩ := H
 replace H : (if t305 = 100 then (gangwaylaw5_CodeChecks.l0 kj1 l0 (wrap64 (x3_1 + 1))) else (none)) = some r := H
 have A19 := am_ A190
 clear A190
 by_cases c20 : t305 = 100
 rotate_left
 ·rw [if_neg c20] at H
  exact absurd H (by simp)
 rw [if_pos c20] at H
 have c20b0 : (t305 == 100) = true := beq_iff_eq.mpr c20
 have c20b1 : (t305 != 100) = false := bne_eq_false_iff_eq.mpr c20
 clear c20
 have H' := am_ H
 clear H
 have p296 : 0 ≤ (x3_1 : Int) := of_decide_eq_true aa_2
 have q296 : x3_1 < (l0.length : Int) := of_decide_eq_true aa_2
 obtain ⟨ad296, A296_0, c296_0, A296_1, c296_1, e296, hx296_0, hx296_1, hl296_0, hi296_0, hl296_1, hi296_1⟩ := at_T26 HR0.out x3_1 p296 q296
 cases e296
 replace hx296_0 := up HB hx296_0
 replace hx296_1 := up HB hx296_1
 have HR296_0 := am_ hi296_0
 have HC296_0 := am_ hl296_0
 clear hi296_0 hl296_0
 have HR296_1 := am_ hi296_1
 have HC296_1 := am_ hl296_1
 clear hi296_1 hl296_1
 replace p296 := eq_true p296
 replace q296 := eq_true q296
 go_wp2_with (first | ((with_reducible refine gate_callee (f := 9) rfl ?_); refine goesL_ (some 19) rfl rfl Try.func9 (by kernel_rfl) rfl #[.agg #[.slice A296_0 ((rd_T26 l0 x3_1).f0).length c296_0, .slice A296_1 ((rd_T26 l0 x3_1).f1).length c296_1]] rfl aa_1 ?_; (with_reducible refine (gangwaylaw5_heavy.calls kj1 _ _ ((rd_T26 l0 x3_1).f0) _ _ ((rd_T26 l0 x3_1).f1) false _ ?side1 ?side2 ?side3 ?side4 A7.out).mono ?_); (case side1 => exact aa_3); (case side2 => exact HC296_0.out); (case side3 => exact aa_4); (case side4 => exact HC296_1.out); rintro e w21 ⟨rfl, hb⟩; refine ⟨_, rfl, ?_⟩; have n0_ := am_ (below_step aa_0 hb); clear HB; have HB := n0_; clear n0_; (try clear hb); (try clear hb2); (try clear hk); (try clear hi); have p298 : 0 ≤ (x3_1 : Int) := of_decide_eq_true aa_2; have q298 : x3_1 < (l0.length : Int) := of_decide_eq_true aa_2; obtain ⟨ad298, A298_0, c298_0, A298_1, c298_1, e298, hx298_0, hx298_1, hl298_0, hi298_0, hl298_1, hi298_1⟩ := at_T26 HR0.out x3_1 p298 q298; obtain rfl : ad296 = ad298 := (by injection e298); replace hx298_0 := up HB hx298_0; replace hx298_1 := up HB hx298_1; have HR298_0 := am_ hi298_0; have HC298_0 := am_ hl298_0; clear hi298_0 hl298_0; have HR298_1 := am_ hi298_1; have HC298_1 := am_ hl298_1; clear hi298_1 hl298_1; replace p298 := eq_true p298; replace q298 := eq_true q298) | ((with_reducible refine gate_callee (f := 18) rfl ?_); refine goesL_ (some 25) rfl rfl Try.func18 (by kernel_rfl) rfl #[.slice A298_0 ((rd_T26 l0 x3_1).f0).length c298_0] rfl aa_1 ?_; (with_reducible refine (code_Check.calls kj1 _ _ ((rd_T26 l0 x3_1).f0) t299 _ ?side1 ?side2 A10.out).mono ?_); (case side1 => exact aa_5); (case side2 => exact HC298_0.out); rintro e w22 ⟨rfl, hb⟩; refine ⟨_, rfl, ?_⟩; have n0_ := am_ (below_step aa_0 hb); clear HB; have HB := n0_; clear n0_; (try clear hb); (try clear hb2); (try clear hk); (try clear hi)) | ((with_reducible refine gate_callee (f := 13) rfl ?_); refine goesL_ (some 26) rfl rfl Try.func13 (by kernel_rfl) rfl #[.int .i64 t299] rfl aa_1 ?_; (with_reducible refine (gangwaylaw5_num.calls t299 t300 _ A11.out).mono ?_); rintro e w' ⟨rfl, ⟨nd, rfl⟩⟩; refine ⟨_, rfl, ?_⟩; have p301 : 0 ≤ (x3_1 : Int) := of_decide_eq_true aa_2; have q301 : x3_1 < (l0.length : Int) := of_decide_eq_true aa_2; obtain ⟨ad301, A301_0, c301_0, A301_1, c301_1, e301, hx301_0, hx301_1, hl301_0, hi301_0, hl301_1, hi301_1⟩ := at_T26 HR0.out x3_1 p301 q301; obtain rfl : ad296 = ad301 := (by injection e301); replace hx301_0 := up HB hx301_0; replace hx301_1 := up HB hx301_1; have HR301_0 := am_ hi301_0; have HC301_0 := am_ hl301_0; clear hi301_0 hl301_0; have HR301_1 := am_ hi301_1; have HC301_1 := am_ hl301_1; clear hi301_1 hl301_1; replace p301 := eq_true p301; replace q301 := eq_true q301) | ((with_reducible refine gate_callee (f := 19) rfl ?_); refine goesL_ (some 34) rfl rfl Try.func19 (by kernel_rfl) rfl #[.slice A301_0 ((rd_T26 l0 x3_1).f0).length c301_0, .int .i64 40] rfl aa_1 ?_; (with_reducible refine (gangwayref5_May.calls kj1 _ _ ((rd_T26 l0 x3_1).f0) 40 t302 _ ?side1 ?side2 A12.out).mono ?_); (case side1 => exact aa_6); (case side2 => exact HC301_0.out); rintro e w23 ⟨rfl, hb⟩; refine ⟨_, rfl, ?_⟩; have n0_ := am_ (below_step aa_0 hb); clear HB; have HB := n0_; clear n0_; (try clear hb); (try clear hb2); (try clear hk); (try clear hi); have p303 : 0 ≤ (x3_1 : Int) := of_decide_eq_true aa_2; have q303 : x3_1 < (l0.length : Int) := of_decide_eq_true aa_2; obtain ⟨ad303, A303_0, c303_0, A303_1, c303_1, e303, hx303_0, hx303_1, hl303_0, hi303_0, hl303_1, hi303_1⟩ := at_T26 HR0.out x3_1 p303 q303; obtain rfl : ad296 = ad303 := (by injection e303); replace hx303_0 := up HB hx303_0; replace hx303_1 := up HB hx303_1; have HR303_0 := am_ hi303_0; have HC303_0 := am_ hl303_0; clear hi303_0 hl303_0; have HR303_1 := am_ hi303_1; have HC303_1 := am_ hl303_1; clear hi303_1 hl303_1; replace p303 := eq_true p303; replace q303 := eq_true q303) | (go_at_call 18; (with_reducible refine (code_Check.calls kj1 _ _ ((rd_T26 l0 x3_1).f0) t304 _ ?side1 ?side2 A18.out).mono ?_); (case side1 => repeat (first | exact (Kd.C_below HR303_0.out HB.out) | (with_reducible refine Kd.C_alloc ?_ _) | (with_reducible refine Kd.C_drewN ?_ _) | (with_reducible refine Kd.C_drew ?_))); (case side2 => exact HC303_0.out); rintro e w24 ⟨rfl, hb⟩; have n0_ := am_ (below_step aa_0 hb); clear HB; have HB := n0_; clear n0_; (try clear hb); (try clear hb2); (try clear hk); (try clear hi)) | (go_at_call 13; (with_reducible refine (gangwaylaw5_num.calls t304 t305 _ A19.out).mono ?_); rintro e w' ⟨rfl, ⟨nd, rfl⟩⟩))
 go_roundg kj1
 case measure => have := HK1.out; have := HJ1.out; omega
 case rel => exact ⟨(wrap64 (x3_1 + 1)), (by first | rfl | (simp; done) | (simp [*]; done)), H', ⟨by have := HK1.out; have := HJ1.out; omega⟩, ⟨aa_0⟩⟩
/-- THE ONE PURE STATEMENT of gangwaylaw5_CodeChecks: yours. -/
def gangwaylaw5_CodeChecks.Pure : Prop := ∀ (x0 : List (S26)), (x0.length * 48 ≤ 140737488351232 ∧ ∀ y311 ∈ x0, okT26 y311) → ∃ k, gangwaylaw5_CodeChecks.f k x0 = some true
theorem gangwaylaw5_CodeChecks.walk (P : gangwaylaw5_CodeChecks.Pure) (w : World) (x0 : List (S26)) (A0 : Option Addr) (c0 : Nat) (hr0 : Kd.C k26 w A0 x0.length x0) (hc0 : x0.length ≤ c0) (hok0 : (x0.length * 48 ≤ 140737488351232 ∧ ∀ y312 ∈ x0, okT26 y312)) :
  Calls Try.prog 4 #[.slice A0 x0.length c0] w fun e w' => e = .returned (.bool true) ∧ Below w.heap.size w w' := by
 obtain ⟨k, h⟩ := P x0 hok0
 refine (gangwaylaw5_CodeChecks.calls k _ _ x0 true w hr0 hc0 h).mono ?_
 rintro e w' ⟨rfl, hd⟩
 exact ⟨rfl, hd⟩

/-- A state of type 64 at block g of W; what its slices lead to came in by w0. -/
def IsS64 (w0 W : World) (g : Nat) (f0 : Value) : Prop := W.heap[g]? = some (.cells #[f0] 64 (0, 0)) ∧ w0.heap.size ≤ g
theorem IsS64.grown {w0 W : World} {g : Nat} {f0 : Value} {W1 : World} {row : Option Nat} (h : IsS64 w0 W g f0) (hw : W.grownBy W1 row) (hne : some g ≠ row) : IsS64 w0 W1 g f0 := by
  obtain ⟨hb, hg⟩ := h
  exact ⟨blk_grown hb hw hne, hg⟩
theorem IsS64.kept {w0 W : World} {g : Nat} {f0 : Value} {W1 : World} {S : Nat → Prop} (h : IsS64 w0 W g f0) (hk : Kept W W1 S) (hne : ¬ S g) : IsS64 w0 W1 g f0 := by
  obtain ⟨hb, hg⟩ := h
  exact ⟨blk_kept hb hk hne, hg⟩
theorem IsS64.below {w0 W : World} {g : Nat} {f0 : Value} {W1 : World} (h : IsS64 w0 W g f0) (hw : Below W.heap.size W W1) : IsS64 w0 W1 g f0 := h.grown (grown_of_below hw none) (by simp)
theorem IsS64.alloc {w0 W : World} {g : Nat} {f0 : Value} (h : IsS64 w0 W g f0) (o : Obj) : IsS64 w0 (W.alloc o) g f0 := h.below (below_alloc (Below.refl _ _) o)
theorem IsS64.drewN {w0 W : World} {g : Nat} {f0 : Value} (h : IsS64 w0 W g f0) (m : Nat) : IsS64 w0 (W.drewN m) g f0 := h
theorem IsS64.drew {w0 W : World} {g : Nat} {f0 : Value} (h : IsS64 w0 W g f0) : IsS64 w0 W.drew g f0 := h
theorem IsS64.at_ {w0 W : World} {g : Nat} {f0 : Value} {w' : World} {m : Nat} (hq : W.drewN m = w') (h : IsS64 w0 W g f0) : IsS64 w0 w' g f0 := by subst hq; exact IsS64.drewN h m
theorem IsS64.apart {w0 W : World} {g : Nat} {f0 : Value} {α : Type} {d : Kd α} {e : Nat} {base : Nat} {ok : Nat → Prop} {v : Value} {xs : List α} (h : IsS64 w0 W g f0) (ho : d.R e W base ok v xs) (ht : ∀ q, q ∈ e :: d.E → q ≠ 64) : d.R e W base (fun k => ok k ∧ k ≠ g) v xs := by
  obtain ⟨hb, hg⟩ := h
  exact Kd.R_types ho hb ht
theorem IsS64.own_ne {w0 W : World} {g : Nat} {f0 : Value} {α : Type} {d : Kd α} {e : Nat} {base : Nat} {ok : Nat → Prop} {v : Value} {xs : List α} (h : IsS64 w0 W g f0) (ho : d.R e W base ok v xs) (ht : e ≠ 64) : some g ≠ v.ownBlock := by
  obtain ⟨hb, hg⟩ := h
  exact Kd.R_ne ho hb ht
theorem IsS64.lt {w0 W : World} {g : Nat} {f0 : Value} (h : IsS64 w0 W g f0) : g < W.heap.size := by
  obtain ⟨hb, hg⟩ := h
  exact blk_lt hb
theorem IsS64.ge {w0 W : World} {g : Nat} {f0 : Value} (h : IsS64 w0 W g f0) : w0.heap.size ≤ g := by
  obtain ⟨hb, hg⟩ := h
  exact hg
theorem IsS64.far {w0 W : World} {g : Nat} {f0 : Value} {p : Addr} (h : IsS64 w0 W g f0) (hne : g ≠ p.block) (u : Value) : IsS64 w0 (W.setCell p u) g f0 := by
  obtain ⟨hb, hg⟩ := h
  exact ⟨blk_far hb hne u, hg⟩
end Go.Proofs.Ytlahigmoljflkaa.PAll
