import Derived.Test.YtlahigmoljflkaaPAllx0
import Derived.Test.YtlahigmoljflkaaPAllx1
import Derived.Test.YtlahigmoljflkaaPAllx12
import Derived.Test.YtlahigmoljflkaaPAllx15
import Derived.Test.YtlahigmoljflkaaPAllx18
import Derived.Test.YtlahigmoljflkaaPAllx19
import Derived.Test.YtlahigmoljflkaaPAllx20
namespace Go.Proofs.Ytlahigmoljflkaa.PAll
open Go.RowKit Go.Proofs.YtlahigmoljflkaaW.PrintWords Go.Proofs.YtlahigmoljflkaaW.PrintLast Go.Proofs.YtlahigmoljflkaaW.PrintMore
attribute [local go_sem] max2_int min2_int max_two min_two max_three min_three max_four min_four   -- for this text's walks alone
set_option linter.unusedVariables false
set_option linter.unusedSimpArgs false

theorem gangwayref5_May.aa_0 {p : Prop} (h : p := by repeat (first | (with_reducible first | exact HB.out | apply below_alloc | apply pw_below_drewN | apply below_drew1) | exact HB.out)) : p := h
theorem gangwayref5_May.aa_1 {p : Prop} (h : p := by repeat (first | exact (Kd.C_below HR451_6.out HB.out) | (with_reducible refine Kd.C_alloc ?_ _) | (with_reducible refine Kd.C_drewN ?_ _) | (with_reducible refine Kd.C_drew ?_))) : p := h
theorem gangwayref5_May.aa_2 {p : Prop} (h : p := by repeat (first | exact (Kd.C_below HR451_7.out HB.out) | (with_reducible refine Kd.C_alloc ?_ _) | (with_reducible refine Kd.C_drewN ?_ _) | (with_reducible refine Kd.C_drew ?_))) : p := h
theorem gangwayref5_May.aa_3 {p : Prop} (h : p := by repeat (first | exact (Kd.C_below HR451_8.out HB.out) | (with_reducible refine Kd.C_alloc ?_ _) | (with_reducible refine Kd.C_drewN ?_ _) | (with_reducible refine Kd.C_drew ?_))) : p := h
theorem gangwayref5_May.am_ {p : Prop} (h : p) : Aside0 p := Aside0.mk h
theorem gangwayref5_May.bm_ {α β : Type _} {o : Option α} {f : α → Option β} {b : β} (h : o.bind f = some b) : ∃ a, o = some a ∧ f a = some b := Option.bind_eq_some_iff.mp h
set_option maxHeartbeats 8000000 in
set_option maxRecDepth 100000 in
theorem gangwayref5_May.calls (k : Nat) : ∀ (A0 : Option Addr) (c0 : Nat) (l0 : List (S45)) (a1 : Int) (r : Bool) (w : World) (hr0 : Kd.C k45 w A0 l0.length l0) (hc0 : l0.length ≤ c0) (h : gangwayref5_May.f k l0 a1 = some r),
  Calls Try.prog 19 #[.slice A0 l0.length c0, .int .i64 a1] w fun e w' => e = .returned (.bool r) ∧ Below w.heap.size w w' := by
 induction k using Nat.strongRecOn with
 | _ k ih =>
 intro A0 c0 l0 a1 r w hr0 hc0 h
 cases k with
 | zero => exact absurd h (by simp [gangwayref5_May.f])
 | succ k =>
 simp only [gangwayref5_May.f] at h; have hu45 := Try.underlying45; have HR0 := am_ hr0; have HC0 := am_ hc0; clear hr0 hc0; have HB := am_ (Below.refl w.heap.size w); have H : (gangwayref5_May.l0 k l0 a1 0) = some r := h; clear h; have H' := am_ H; clear H; go_enter Try.func19, Try.ntmps19; go_wp2
 go_loopg [5] k (fun kq v5 w' => ∃ (x5_1 : Int), v5 = .int .i64 x5_1 ∧ Aside0 (gangwayref5_May.l0 kq l0 a1 x5_1 = some r) ∧ Aside0 (kq ≤ k) ∧ Aside0 (Below w.heap.size w w'))
 case atStart => exact ⟨(0), (es_), H', ⟨Nat.le_refl _⟩, ⟨aa_0⟩⟩
 case round =>
 clear H'; obtain ⟨x5_1, rfl, HA, HK1, HB⟩ := hrel
 cases gk with
 | zero => exact absurd HA.out (by simp [gangwayref5_May.l0])
 | succ k1 =>
 have H := HA.out; clear HA; simp only [gangwayref5_May.l0] at H; by_cases c3 : x5_1 < (l0.length : Int)
 rotate_left
 ·rw [if_neg c3] at H; have c3b0 : decide (x5_1 < (l0.length : Int)) = false := decide_eq_false c3; clear c3; obtain rfl := Option.some.inj H; go_wp2; go_ret; exact ⟨er_, by repeat (first | (with_reducible first | exact HB.out | apply below_alloc | apply pw_below_drewN | apply below_drew1) | exact HB.out)⟩
 rw [if_pos c3] at H; have c3b0 : decide (x5_1 < (l0.length : Int)) = true := decide_eq_true c3; clear c3; by_cases c4 : 0 ≤ x5_1
 rotate_left
 ·rw [if_neg c4] at H; exact absurd H (by simp)
 rw [if_pos c4] at H; have c4b0 : decide (0 ≤ x5_1) = true := decide_eq_true c4; clear c4; replace H := bm_ H; obtain ⟨t452, A50, H⟩ := H; replace H : (if t452 = true then (gangwayref5_May.l0 k1 l0 a1 (wrap64 (x5_1 + 1))) else (some false)) = some r := H; have A5 := am_ A50; clear A50; by_cases c6 : t452 = true
 rotate_left
 ·replace c6 := Bool.eq_false_iff.mpr c6; subst c6; have H1 : (some false) = some r := by rw [if_neg (show ¬ (false = true) by decide)] at H; exact H
  clear H; have H := H1; clear H1; obtain rfl := Option.some.inj H; have p451 : 0 ≤ (x5_1 : Int) := of_decide_eq_true (by first | (with_reducible assumption) | assumption); have q451 : x5_1 < (l0.length : Int) := of_decide_eq_true (by first | (with_reducible assumption) | assumption); obtain ⟨ad451, A451_6, c451_6, A451_7, c451_7, A451_8, c451_8, e451, hx451_0, hx451_1, hx451_2, hx451_3, hx451_4, hx451_5, hx451_6, hx451_7, hx451_8, hl451_6, hi451_6, hl451_7, hi451_7, hl451_8, hi451_8⟩ := at_T45 HR0.out x5_1 p451 q451
  cases e451
  replace hx451_0 := up HB hx451_0; replace hx451_1 := up HB hx451_1; replace hx451_2 := up HB hx451_2; replace hx451_3 := up HB hx451_3; replace hx451_4 := up HB hx451_4; replace hx451_5 := up HB hx451_5; replace hx451_6 := up HB hx451_6; replace hx451_7 := up HB hx451_7; replace hx451_8 := up HB hx451_8; have HR451_6 := am_ hi451_6; have HC451_6 := am_ hl451_6; clear hi451_6 hl451_6; have HR451_7 := am_ hi451_7; have HC451_7 := am_ hl451_7; clear hi451_7 hl451_7; have HR451_8 := am_ hi451_8; have HC451_8 := am_ hl451_8; clear hi451_8 hl451_8; replace p451 := eq_true p451; replace q451 := eq_true q451
  go_wp2_with (first | ((with_reducible refine gate_dst (N := 15) rfl ?_); refine Go.Proofs.YtlahigmoljflkaaO.load_cells ?hg (N := 15) ?hd 45 (x := ?xo15_) ?ho (ad := ?ad15_) ?hx [.int .i64 ((rd_T45 l0 x5_1).f0), .int .i64 ((rd_T45 l0 x5_1).f1), .int .i64 ((rd_T45 l0 x5_1).f2), .int .i64 ((rd_T45 l0 x5_1).f3), .int .i64 ((rd_T45 l0 x5_1).f4), .int .i64 ((rd_T45 l0 x5_1).f5), .slice A451_6 ((rd_T45 l0 x5_1).f6).length c451_6, .slice A451_7 ((rd_T45 l0 x5_1).f7).length c451_7, .slice A451_8 ((rd_T45 l0 x5_1).f8).length c451_8] Try.underlying45 (by kernel_rfl) ?hc ?_; (case hd => rfl); (case hg => rfl); (case ho => rfl); (case hx => rfl); (case hc => exact ⟨hx451_0, hx451_1, hx451_2, hx451_3, hx451_4, hx451_5, hx451_6, hx451_7, hx451_8, trivial⟩)) | ((with_reducible refine gate_callee (f := 29) rfl ?_); refine goesL_ (some 17) rfl rfl Try.func29 (by kernel_rfl) rfl #[.agg #[.int .i64 ((rd_T45 l0 x5_1).f0), .int .i64 ((rd_T45 l0 x5_1).f1), .int .i64 ((rd_T45 l0 x5_1).f2), .int .i64 ((rd_T45 l0 x5_1).f3), .int .i64 ((rd_T45 l0 x5_1).f4), .int .i64 ((rd_T45 l0 x5_1).f5), .slice A451_6 ((rd_T45 l0 x5_1).f6).length c451_6, .slice A451_7 ((rd_T45 l0 x5_1).f7).length c451_7, .slice A451_8 ((rd_T45 l0 x5_1).f8).length c451_8], .int .i64 a1] rfl (by (try simp only [List.map_toArray, List.map_cons, List.map_nil]); first | done | rfl | (simp only [List.length_drop, List.length_take]; rfl)) ?_; (with_reducible refine (gangwayref5_May.q.step k1 (fun j_ hj_ => ih j_ (by have := HK1.out; omega)) ((rd_T45 l0 x5_1).f0) ((rd_T45 l0 x5_1).f1) ((rd_T45 l0 x5_1).f2) ((rd_T45 l0 x5_1).f3) ((rd_T45 l0 x5_1).f4) ((rd_T45 l0 x5_1).f5) _ _ ((rd_T45 l0 x5_1).f6) _ _ ((rd_T45 l0 x5_1).f7) _ _ ((rd_T45 l0 x5_1).f8) a1 false _ ?side1 ?side2 ?side3 ?side4 ?side5 ?side6 A5.out).mono ?_); (case side1 => exact aa_1); (case side2 => exact HC451_6.out); (case side3 => exact aa_2); (case side4 => exact HC451_7.out); (case side5 => exact aa_3); (case side6 => exact HC451_8.out); rintro e w8 ⟨rfl, hb⟩; refine ⟨_, rfl, ?_⟩; have n0_ := am_ (below_step (by repeat (first | (with_reducible first | exact HB.out | apply below_alloc | apply pw_below_drewN | apply below_drew1) | exact HB.out)) hb); clear HB; have HB := n0_; clear n0_; (try clear hb); (try clear hb2); (try clear hk); (try clear hi)))
  go_ret; exact ⟨er_, by repeat (first | (with_reducible first | exact HB.out | apply below_alloc | apply pw_below_drewN | apply below_drew1) | exact HB.out)⟩
 subst c6; have H1 : (gangwayref5_May.l0 k1 l0 a1 (wrap64 (x5_1 + 1))) = some r := by rw [if_pos rfl] at H; exact H
 clear H; have H := H1; clear H1; have H' := am_ H; clear H; have p451 : 0 ≤ (x5_1 : Int) := of_decide_eq_true (by first | (with_reducible assumption) | assumption); have q451 : x5_1 < (l0.length : Int) := of_decide_eq_true (by first | (with_reducible assumption) | assumption); obtain ⟨ad451, A451_6, c451_6, A451_7, c451_7, A451_8, c451_8, e451, hx451_0, hx451_1, hx451_2, hx451_3, hx451_4, hx451_5, hx451_6, hx451_7, hx451_8, hl451_6, hi451_6, hl451_7, hi451_7, hl451_8, hi451_8⟩ := at_T45 HR0.out x5_1 p451 q451
 cases e451
 replace hx451_0 := up HB hx451_0; replace hx451_1 := up HB hx451_1; replace hx451_2 := up HB hx451_2; replace hx451_3 := up HB hx451_3; replace hx451_4 := up HB hx451_4; replace hx451_5 := up HB hx451_5; replace hx451_6 := up HB hx451_6; replace hx451_7 := up HB hx451_7; replace hx451_8 := up HB hx451_8; have HR451_6 := am_ hi451_6; have HC451_6 := am_ hl451_6; clear hi451_6 hl451_6; have HR451_7 := am_ hi451_7; have HC451_7 := am_ hl451_7; clear hi451_7 hl451_7; have HR451_8 := am_ hi451_8; have HC451_8 := am_ hl451_8; clear hi451_8 hl451_8; replace p451 := eq_true p451; replace q451 := eq_true q451
 go_wp2_with (first | ((with_reducible refine gate_dst (N := 15) rfl ?_); refine Go.Proofs.YtlahigmoljflkaaO.load_cells ?hg (N := 15) ?hd 45 (x := ?xo15_) ?ho (ad := ?ad15_) ?hx [.int .i64 ((rd_T45 l0 x5_1).f0), .int .i64 ((rd_T45 l0 x5_1).f1), .int .i64 ((rd_T45 l0 x5_1).f2), .int .i64 ((rd_T45 l0 x5_1).f3), .int .i64 ((rd_T45 l0 x5_1).f4), .int .i64 ((rd_T45 l0 x5_1).f5), .slice A451_6 ((rd_T45 l0 x5_1).f6).length c451_6, .slice A451_7 ((rd_T45 l0 x5_1).f7).length c451_7, .slice A451_8 ((rd_T45 l0 x5_1).f8).length c451_8] Try.underlying45 (by kernel_rfl) ?hc ?_; (case hd => rfl); (case hg => rfl); (case ho => rfl); (case hx => rfl); (case hc => exact ⟨hx451_0, hx451_1, hx451_2, hx451_3, hx451_4, hx451_5, hx451_6, hx451_7, hx451_8, trivial⟩)) | ((with_reducible refine gate_callee (f := 29) rfl ?_); refine goesL_ (some 17) rfl rfl Try.func29 (by kernel_rfl) rfl #[.agg #[.int .i64 ((rd_T45 l0 x5_1).f0), .int .i64 ((rd_T45 l0 x5_1).f1), .int .i64 ((rd_T45 l0 x5_1).f2), .int .i64 ((rd_T45 l0 x5_1).f3), .int .i64 ((rd_T45 l0 x5_1).f4), .int .i64 ((rd_T45 l0 x5_1).f5), .slice A451_6 ((rd_T45 l0 x5_1).f6).length c451_6, .slice A451_7 ((rd_T45 l0 x5_1).f7).length c451_7, .slice A451_8 ((rd_T45 l0 x5_1).f8).length c451_8], .int .i64 a1] rfl (by (try simp only [List.map_toArray, List.map_cons, List.map_nil]); first | done | rfl | (simp only [List.length_drop, List.length_take]; rfl)) ?_; (with_reducible refine (gangwayref5_May.q.step k1 (fun j_ hj_ => ih j_ (by have := HK1.out; omega)) ((rd_T45 l0 x5_1).f0) ((rd_T45 l0 x5_1).f1) ((rd_T45 l0 x5_1).f2) ((rd_T45 l0 x5_1).f3) ((rd_T45 l0 x5_1).f4) ((rd_T45 l0 x5_1).f5) _ _ ((rd_T45 l0 x5_1).f6) _ _ ((rd_T45 l0 x5_1).f7) _ _ ((rd_T45 l0 x5_1).f8) a1 true _ ?side1 ?side2 ?side3 ?side4 ?side5 ?side6 A5.out).mono ?_); (case side1 => exact aa_1); (case side2 => exact HC451_6.out); (case side3 => exact aa_2); (case side4 => exact HC451_7.out); (case side5 => exact aa_3); (case side6 => exact HC451_8.out); rintro e w7 ⟨rfl, hb⟩; refine ⟨_, rfl, ?_⟩; have n0_ := am_ (below_step (by repeat (first | (with_reducible first | exact HB.out | apply below_alloc | apply pw_below_drewN | apply below_drew1) | exact HB.out)) hb); clear HB; have HB := n0_; clear n0_; (try clear hb); (try clear hb2); (try clear hk); (try clear hi)))
 go_roundg k1
 case measure => have := HK1.out; omega
 case rel => exact ⟨(wrap64 (x5_1 + 1)), (es_), H', ⟨by have := HK1.out; omega⟩, ⟨aa_0⟩⟩
theorem gangwayref5_May.q.calls (k : Nat) : ∀ (a0_0 : Int) (a0_1 : Int) (a0_2 : Int) (a0_3 : Int) (a0_4 : Int) (a0_5 : Int) (A0_6 : Option Addr) (c0_6 : Nat) (l0_6 : List Int) (A0_7 : Option Addr) (c0_7 : Nat) (l0_7 : List (S45)) (A0_8 : Option Addr) (c0_8 : Nat) (l0_8 : List (S45)) (a1 : Int) (r : Bool) (w : World) (hr0_6 : Kd.C (Kd.int .i64) w A0_6 l0_6.length l0_6) (hc0_6 : l0_6.length ≤ c0_6) (hr0_7 : Kd.C k45 w A0_7 l0_7.length l0_7) (hc0_7 : l0_7.length ≤ c0_7) (hr0_8 : Kd.C k45 w A0_8 l0_8.length l0_8) (hc0_8 : l0_8.length ≤ c0_8) (h : gangwayref5_May.q.f k a0_0 a0_1 a0_2 a0_3 a0_4 a0_5 l0_6 l0_7 l0_8 a1 = some r),
  Calls Try.prog 29 #[.agg #[.int .i64 a0_0, .int .i64 a0_1, .int .i64 a0_2, .int .i64 a0_3, .int .i64 a0_4, .int .i64 a0_5, .slice A0_6 l0_6.length c0_6, .slice A0_7 l0_7.length c0_7, .slice A0_8 l0_8.length c0_8], .int .i64 a1] w fun e w' => e = .returned (.bool r) ∧ Below w.heap.size w w' := gangwayref5_May.q.step k (fun j_ _ => gangwayref5_May.calls j_)

end Go.Proofs.Ytlahigmoljflkaa.PAll
