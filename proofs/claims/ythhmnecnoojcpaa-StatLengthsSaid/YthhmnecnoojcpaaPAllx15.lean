/- Printed by a copy of the printer that was turned for this claim: functions as plain Lean functions, with proofs that their calls come to these; or words that such proofs use. -/
import Derived.Test.YthhmnecnoojcpaaPAllx0
import Derived.Test.YthhmnecnoojcpaaPAllx2
import Derived.Test.YthhmnecnoojcpaaPAllx3
namespace Go.Proofs.Ythhmnecnoojcpaa.PAll
open Go.RowKit Go.Proofs.YthhmnecnoojcpaaW.PrintWords Go.Proofs.YthhmnecnoojcpaaW.PrintLast Go.Proofs.YthhmnecnoojcpaaW.PrintMore
attribute [local go_sem] max2_int min2_int max_two min_two max_three min_three max_four min_four   -- for this text's walks alone
set_option linter.unusedVariables false
set_option linter.unusedSimpArgs false

/-! ### gangwayref20_Prestat: function 28 -/
def gangwayref20_Prestat.f (k : Nat) (a0 : ByteArray) : Option (List Int) := (gangwayref20_Little.f k (IntKind.u64.wrap ((a0.size : Int))) 4).bind fun t427 => ((gangwayref20_put.f k (List.replicate 8 0) 4 t427).bind fun t430 => (some t430))
theorem gangwayref20_Prestat.mono : ∀ a0 k, LeO (gangwayref20_Prestat.f k a0) (gangwayref20_Prestat.f (k + 1) a0) := by
  intro a0 k
  unfold gangwayref20_Prestat.f
  repeat' first
      | (with_reducible exact gangwayref20_Little.mono _ _ _)
      | (with_reducible exact gangwayref20_put.mono _ _ _ _)
      | (with_reducible exact LeO.refl _)
      | (with_reducible exact LeO.none _)
      | (with_reducible refine LeO.ite ?_ ?_)
      | (with_reducible refine LeO.bind ?_ (fun _ => ?_))
      | exact gangwayref20_Little.mono _ _ _
      | exact gangwayref20_put.mono _ _ _ _
      | exact LeO.none _
      | refine LeO.ite ?_ ?_
      | refine LeO.bind ?_ (fun _ => ?_)
set_option maxHeartbeats 8000000 in
set_option maxRecDepth 100000 in
theorem gangwayref20_Prestat.calls (k : Nat) (a0 : ByteArray) (r : List Int) (w : World) (h : gangwayref20_Prestat.f k a0 = some r) :
    Calls Try.prog 28 #[.string a0] w fun e w' => ∃ v0_ : Value, e = .returned (v0_) ∧ Kd.R (Kd.int .u8) 5 w' w.heap.size (fun _ => True) v0_ r ∧ Below w.heap.size w w' := by
  have HB := Aside0.mk (Below.refl w.heap.size w)
  have H : ((gangwayref20_Little.f k (IntKind.u64.wrap ((a0.size : Int))) 4).bind fun t427 => ((gangwayref20_put.f k (List.replicate 8 0) 4 t427).bind fun t430 => (some t430))) = some r := h
  clear h
  obtain ⟨y424, hy424⟩ : ∃ y_ : List Int, y_ = (List.replicate 8 0) := ⟨_, rfl⟩
  replace H : ((gangwayref20_Little.f k (IntKind.u64.wrap ((a0.size : Int))) 4).bind fun t427 => ((gangwayref20_put.f k y424 4 t427).bind fun t430 => (some t430))) = some r := by first | (rw [hy424]; with_reducible exact H) | (have H2_ := (Option.bind_some _ _).symm.trans H; rw [hy424]; with_reducible exact H2_) | (have H2_ := (Option.bind_some _ _).symm.trans H; with_reducible exact H2_) | with_reducible exact H | (rw [hy424]; exact H) | exact H
  have Ny424 := Aside0.mk hy424
  clear hy424
  replace H := Option.bind_eq_some_iff.mp H
  obtain ⟨t427, A20, H⟩ := H
  replace H : ((gangwayref20_put.f k y424 4 t427).bind fun t430 => (some t430)) = some r := H
  have A2 := Aside0.mk A20
  clear A20
  replace H := Option.bind_eq_some_iff.mp H
  obtain ⟨t430, A30, H⟩ := H
  replace H : (some t430) = some r := H
  have A3 := Aside0.mk A30
  clear A30
  obtain rfl := Option.some.inj H
  go_enter Try.func28, Try.ntmps28
  go_wp2_with (first | ((with_reducible refine gate_dst (N := 4) rfl ?_); refine Kd.R_make (Kd.int .u8) _ 5 rfl (N := 4) rfl 23 _ _ rfl 8 rfl rfl Try.underlying23 (.int .u8 0) 1 info5 rfl (by decide) (by omega) 0 (ok := fun _ => True) (okp := fun _ => True) rfl (fun _ hk => hk) trivial (by omega) (by omega) (Below.refl _ _) (Nat.le_refl _) ?_; intro v425 w4 ho5 hb hg_ hnew_; clear hg_ hnew_; (first | rw [← Ny424.out] at ho5 | (simp only [Int.reduceToNat] at ho5; rw [← Ny424.out] at ho5)); have n0_ := Aside0.mk (Kd.R_lower ho5 (below_size (by repeat (first | (with_reducible first | exact HB.out | apply below_alloc | apply pw_below_drewN | apply below_drew1) | exact HB.out)))); have n1_ := Aside0.mk (below_step (by repeat (first | (with_reducible first | exact HB.out | apply below_alloc | apply pw_below_drewN | apply below_drew1) | exact HB.out)) hb); clear HB; have HO426 := n0_; have HB := n1_; clear n0_ n1_; clear hb ho5) | ((with_reducible refine gate_callee (f := 34) rfl ?_); refine goesL_ (some 9) rfl rfl Try.func34 (by kernel_rfl) rfl #[.int .u64 (IntKind.u64.wrap ((a0.size : Int))), .int .i64 4] rfl (by (try simp only [List.map_toArray, List.map_cons, List.map_nil]); first | done | rfl | (simp only [List.length_drop, List.length_take]; rfl)) ?_; (with_reducible refine (gangwayref20_Little.calls k (IntKind.u64.wrap ((a0.size : Int))) 4 t427 _ A2.out).mono ?_); rintro e w6 ⟨v428, rfl, ho0, hb⟩; refine ⟨_, rfl, ?_⟩; have n0_ := Aside0.mk (Kd.R_elder' (by (with_reducible repeat (first | apply Kd.R_alloc | apply Kd.R_drewN | apply Kd.R_drew)); exact HO426.out) (Kd.R_base ho0) hb); have n1_ := Aside0.mk (Kd.R_lower (Kd.R_new' ho0 (Kd.R_lt (by (with_reducible repeat (first | apply Kd.R_alloc | apply Kd.R_drewN | apply Kd.R_drew)); exact HO426.out))) (below_size (by repeat (first | (with_reducible first | exact HB.out | apply below_alloc | apply pw_below_drewN | apply below_drew1) | exact HB.out)))); have n2_ := Aside0.mk (below_step (by repeat (first | (with_reducible first | exact HB.out | apply below_alloc | apply pw_below_drewN | apply below_drew1) | exact HB.out)) hb); clear HO426; clear HB; have HO426 := n0_; have HO429 := n1_; have HB := n2_; clear n0_ n1_ n2_; (try clear hb); (try clear hb2); (try clear hk); (try clear hi); (try clear ho0); obtain ⟨Ao7, co7, eo7⟩ := Kd.R_slice HO426.out; subst eo7; obtain ⟨Ao8, co8, eo8⟩ := Kd.R_slice HO429.out; subst eo8) | ((with_reducible refine gate_callee (f := 33) rfl ?_); refine goesL_ (some 10) rfl rfl Try.func33 (by kernel_rfl) rfl #[.slice Ao7 y424.length co7, .int .i64 4, .slice Ao8 t427.length co8] rfl (by (try simp only [List.map_toArray, List.map_cons, List.map_nil]); first | done | rfl | (simp only [List.length_drop, List.length_take]; rfl)) ?_; (with_reducible refine (gangwayref20_put.calls k (fun k_ => some k_ = (.slice Ao7 y424.length co7 : Value).ownBlock) (.slice Ao7 y424.length co7) y424 4 _ _ t427 t430 w _ ?side1 ?side2 ?side3 ?side4 A3.out).mono ?_); (case side1 => repeat (first | (with_reducible first | exact HB.out | apply below_alloc | apply pw_below_drewN | apply below_drew1) | exact HB.out)); (case side2 => exact Kd.R_tight rfl HO426.out); (case side3 => exact Kd.C_kept_own (HO429.out) (fun k_ hk_ hs_ => (hk_.2) hs_)); (case side4 => exact (Kd.R_reads' HO429.out).2.1); rintro e w9 ⟨rfl, hy0, hb, hkp⟩; refine ⟨_, rfl, ?_⟩; (try obtain ⟨hlew9_0, hgew9_0⟩ := Go.Proofs.YthhmnecnoojcpaaO.R_lens hy0); have n0_ := Aside0.mk (Kd.R_reok rfl hy0 (fun k_ e_ => HO426.out.1 k_ e_)); have n1_ := Aside0.mk (Kd.R_mono (ok' := fun k_ => some k_ ≠ (.slice Ao7 y424.length co7 : Value).ownBlock) (Kd.R_keptB (HO429.out) hkp (fun k_ hk_ hs_ => (hk_.2) hs_)) (fun k_ hk_ => hk_.1.2)); have n2_ := Aside0.mk (hb); clear HO426; clear HO429; clear HB; have HO426 := n0_; have HO429 := n1_; have HB := n2_; clear n0_ n1_ n2_; (try clear hb); (try clear hkp); (try clear hy0)))
  go_ret
  exact ⟨_, by first | rfl | (simp [errW_none, errW_some] <;> rfl) | (simp [*, errW_none, errW_some] <;> rfl), by (with_reducible repeat (first | apply Kd.R_alloc | apply Kd.R_drewN | apply Kd.R_drew)); exact Kd.R_mono HO426.out (fun _ hk => trivial), by repeat (first | (with_reducible first | exact HB.out | apply below_alloc | apply pw_below_drewN | apply below_drew1) | exact HB.out)⟩

/-! ### stat_Stream: function 29 -/
def stat_Stream.f (k : Nat)  : Option (List Int) := (stat_fresh.f 64).bind fun t431 => ((stat_field_set.f k t431 16 1 2).bind fun t435 => ((stat_field_set.f k t435 24 8 1).bind fun t436 => (some t436)))
theorem stat_Stream.mono : ∀ k, LeO (stat_Stream.f k ) (stat_Stream.f (k + 1) ) := by
  intro  k
  unfold stat_Stream.f
  repeat' first
      | (with_reducible exact stat_field_set.mono _ _ _ _ _)
      | (with_reducible exact LeO.refl _)
      | (with_reducible exact LeO.none _)
      | (with_reducible refine LeO.ite ?_ ?_)
      | (with_reducible refine LeO.bind ?_ (fun _ => ?_))
      | exact stat_field_set.mono _ _ _ _ _
      | exact LeO.none _
      | refine LeO.ite ?_ ?_
      | refine LeO.bind ?_ (fun _ => ?_)
set_option maxHeartbeats 8000000 in
set_option maxRecDepth 100000 in
theorem stat_Stream.calls (k : Nat)  (r : List Int) (w : World) (h : stat_Stream.f k  = some r) :
    Calls Try.prog 29 #[] w fun e w' => ∃ v0_ : Value, e = .returned (v0_) ∧ Kd.R (Kd.int .u8) 5 w' w.heap.size (fun _ => True) v0_ r ∧ Below w.heap.size w w' := by
  have hu61 := Try.underlying61
  have HB := Aside0.mk (Below.refl w.heap.size w)
  have H : ((stat_fresh.f 64).bind fun t431 => ((stat_field_set.f k t431 16 1 2).bind fun t435 => ((stat_field_set.f k t435 24 8 1).bind fun t436 => (some t436)))) = some r := h
  clear h
  replace H := Option.bind_eq_some_iff.mp H
  obtain ⟨t431, A10, H⟩ := H
  replace H : ((stat_field_set.f k t431 16 1 2).bind fun t435 => ((stat_field_set.f k t435 24 8 1).bind fun t436 => (some t436))) = some r := H
  have A1 := Aside0.mk A10
  clear A10
  replace H := Option.bind_eq_some_iff.mp H
  obtain ⟨t435, A20, H⟩ := H
  replace H : ((stat_field_set.f k t435 24 8 1).bind fun t436 => (some t436)) = some r := H
  have A2 := Aside0.mk A20
  clear A20
  replace H := Option.bind_eq_some_iff.mp H
  obtain ⟨t436, A30, H⟩ := H
  replace H : (some t436) = some r := H
  have A3 := Aside0.mk A30
  clear A30
  obtain rfl := Option.some.inj H
  go_enter Try.func29, Try.ntmps29
  go_wp2_with (first | ((with_reducible refine gate_callee (f := 31) rfl ?_); refine goesL_ (some 2) rfl rfl Try.func31 (by kernel_rfl) rfl #[.int .i64 64] rfl (by (try simp only [List.map_toArray, List.map_cons, List.map_nil]); first | done | rfl | (simp only [List.length_drop, List.length_take]; rfl)) ?_; (with_reducible refine (stat_fresh.calls 64 t431 _ A1.out).mono ?_); rintro e w4 ⟨v432, rfl, ho0, hb⟩; refine ⟨_, rfl, ?_⟩; have n0_ := Aside0.mk (Kd.R_lower ho0 (below_size (by repeat (first | (with_reducible first | exact HB.out | apply below_alloc | apply pw_below_drewN | apply below_drew1) | exact HB.out)))); have n1_ := Aside0.mk (below_step (by repeat (first | (with_reducible first | exact HB.out | apply below_alloc | apply pw_below_drewN | apply below_drew1) | exact HB.out)) hb); clear HB; have HO433 := n0_; have HB := n1_; clear n0_ n1_; (try clear hb); (try clear hb2); (try clear hk); (try clear hi); (try clear ho0)) | ((with_reducible refine gate_dst (N := 1) rfl ?_); refine box_event ?hg (N := 1) ?hd (cs := #[.slice none 0 0]) (t := 61) ?hr ?_; (case hd => rfl); (case hg => rfl); (case hr => first | (go_simp; done) | (go_simp; rfl)); intro gb434 hg w5 hbox hb; have n0_ := Aside0.mk (Kd.R_below (by (with_reducible repeat (first | apply Kd.R_alloc | apply Kd.R_drewN | apply Kd.R_drew)); exact HO433.out) hb); have n1_ := Aside0.mk (below_step (by repeat (first | (with_reducible first | exact HB.out | apply below_alloc | apply pw_below_drewN | apply below_drew1) | exact HB.out)) hb); have n2_ := Aside0.mk (hbox); have n3_ := Aside0.mk ((by rw [hg]; exact (below_size (by repeat (first | (with_reducible first | exact HB.out | apply below_alloc | apply pw_below_drewN | apply below_drew1) | exact HB.out))) : w.heap.size ≤ gb434)); have n4_ := Aside0.mk ((by rw [hg]; exact (below_size (by repeat (first | (with_reducible first | exact HB.out | apply below_alloc | apply pw_below_drewN | apply below_drew1) | exact HB.out))) : w.heap.size ≤ gb434)); clear HO433; clear HB; have HO433 := n0_; have HB := n1_; have BK434 := n2_; have GW434 := n3_; have GE434 := n4_; clear n0_ n1_ n2_ n3_ n4_; clear hb hbox hg; obtain ⟨Ao6, co6, eo6⟩ := Kd.R_slice HO433.out; subst eo6; have hcz7_0 : w5.cell? ⟨gb434, 0, none⟩ = some (.slice none 0 0) := (blk_cell BK434.out 0).trans rfl; have hfz7_0 := blk_frozen BK434.out 0) | ((with_reducible refine gate_store (t := 61) (p := 1) rfl ?_); refine store_event (t := 61) (p := 1) (v := ?vo_w8) (w1 := (w5.setCell ⟨gb434, 0, none⟩ (.slice Ao6 t431.length co6))) ?hg ?ho ?hn ?hr ?_; (case ho => rfl); (case hg => rfl); (case hn => rfl); (case hr => first | (go_simp; done) | (go_simp; rfl)); intro w8 hw; have n0_ : Aside0 (Kd.R (Kd.int .u8) 5 w8 w.heap.size (fun _ => True) (.slice Ao6 t431.length co6) t431) := ⟨(by rw [hw]; exact (by (with_reducible repeat (first | apply Kd.R_alloc | apply Kd.R_drewN | apply Kd.R_drew)); exact Kd.R_mono (Kd.R_far (p := ⟨gb434, 0, none⟩) (Kd.R_types HO433.out BK434.out (by decide)) (fun _ hk => hk.2) (.slice Ao6 t431.length co6)) (fun _ hk => trivial)))⟩; have n1_ : Aside0 (w8.heap[gb434]? = some (.cells #[.slice Ao6 t431.length co6] 61 (0, 0))) := ⟨(by rw [hw]; exact (by (with_reducible repeat (first | refine blk_drewN ?_ _ | refine blk_drew ?_ | refine blk_alloc ?_ _)); refine blk_put (cs := #[.slice none 0 0]) ?_ 0 _ rfl; (with_reducible repeat (first | refine blk_drewN ?_ _ | refine blk_drew ?_ | refine blk_alloc ?_ _)); exact BK434.out))⟩; have n2_ : Aside0 (Below w.heap.size w w8) := ⟨(by rw [hw]; exact (by repeat (first | (with_reducible first | exact HB.out | apply below_alloc | apply pw_below_drewN | apply below_drew1 | refine below_set ?_ GE434.out) | exact HB.out)))⟩; clear hw; clear HO433; clear BK434; clear HB; have HO433 := n0_; have BK434 := n1_; have HB := n2_; clear n0_ n1_ n2_; have hcz9_0 : w8.cell? ⟨gb434, 0, none⟩ = some (.slice Ao6 t431.length co6) := (blk_cell BK434.out 0).trans rfl; have hfz9_0 := blk_frozen BK434.out 0) | ((with_reducible refine gate_callee (f := 32) rfl ?_); refine goesL_ (some 4) rfl rfl Try.func32 (by kernel_rfl) rfl #[.agg #[.slice Ao6 t431.length co6], .int .i64 16, .int .i64 1, .int .i64 2] rfl (by (try simp only [List.map_toArray, List.map_cons, List.map_nil]); first | done | rfl | (simp only [List.length_drop, List.length_take]; rfl)) ?_; (with_reducible refine (stat_field_set.calls k (fun k_ => some k_ = (.slice Ao6 t431.length co6 : Value).ownBlock) (.slice Ao6 t431.length co6) t431 16 1 2 t435 w _ ?side1 ?side2 A2.out).mono ?_); (case side1 => repeat (first | (with_reducible first | exact HB.out | apply below_alloc | apply pw_below_drewN | apply below_drew1 | refine below_set ?_ GE434.out) | exact HB.out)); (case side2 => exact Kd.R_tight rfl HO433.out); rintro e w10 ⟨rfl, hy0, hb, hkp⟩; refine ⟨_, rfl, ?_⟩; (try obtain ⟨hlew10_0, hgew10_0⟩ := Go.Proofs.YthhmnecnoojcpaaO.R_lens hy0); have n0_ := Aside0.mk (Kd.R_reok rfl hy0 (fun k_ e_ => HO433.out.1 k_ e_)); have n1_ := Aside0.mk (blk_kept (o := .cells #[.slice Ao6 t431.length co6] 61 (0, 0)) (by (with_reducible repeat (first | refine blk_drewN ?_ _ | refine blk_drew ?_ | refine blk_alloc ?_ _)); exact BK434.out) hkp (fun hs_ => (fun e_ => (Kd.R_ne HO433.out BK434.out (by decide)) e_) hs_)); have n2_ := Aside0.mk (hb); clear HO433; clear BK434; clear HB; have HO433 := n0_; have BK434 := n1_; have HB := n2_; clear n0_ n1_ n2_; (try clear hb); (try clear hkp); (try clear hy0); have hcz11_0 : w10.cell? ⟨gb434, 0, none⟩ = some (.slice Ao6 t431.length co6) := (blk_cell BK434.out 0).trans rfl; have hfz11_0 := blk_frozen BK434.out 0) | ((with_reducible refine gate_callee (f := 32) rfl ?_); refine goesL_ (some 6) rfl rfl Try.func32 (by kernel_rfl) rfl #[.agg #[.slice Ao6 t431.length co6], .int .i64 24, .int .i64 8, .int .i64 1] rfl (by (try simp only [List.map_toArray, List.map_cons, List.map_nil]); first | done | rfl | (simp only [List.length_drop, List.length_take]; rfl)) ?_; (with_reducible refine (stat_field_set.calls k (fun k_ => some k_ = (.slice Ao6 t431.length co6 : Value).ownBlock) (.slice Ao6 t431.length co6) t435 24 8 1 t436 w _ ?side1 ?side2 A3.out).mono ?_); (case side1 => repeat (first | (with_reducible first | exact HB.out | apply below_alloc | apply pw_below_drewN | apply below_drew1 | refine below_set ?_ GE434.out) | exact HB.out)); (case side2 => exact Kd.R_tight rfl HO433.out); rintro e w12 ⟨rfl, hy0, hb, hkp⟩; refine ⟨_, rfl, ?_⟩; (try obtain ⟨hlew12_0, hgew12_0⟩ := Go.Proofs.YthhmnecnoojcpaaO.R_lens hy0); have n0_ := Aside0.mk (Kd.R_reok rfl hy0 (fun k_ e_ => HO433.out.1 k_ e_)); have n1_ := Aside0.mk (blk_kept (o := .cells #[.slice Ao6 t431.length co6] 61 (0, 0)) (by (with_reducible repeat (first | refine blk_drewN ?_ _ | refine blk_drew ?_ | refine blk_alloc ?_ _)); exact BK434.out) hkp (fun hs_ => (fun e_ => (Kd.R_ne HO433.out BK434.out (by decide)) e_) hs_)); have n2_ := Aside0.mk (hb); clear HO433; clear BK434; clear HB; have HO433 := n0_; have BK434 := n1_; have HB := n2_; clear n0_ n1_ n2_; (try clear hb); (try clear hkp); (try clear hy0); have hcz13_0 : w12.cell? ⟨gb434, 0, none⟩ = some (.slice Ao6 t431.length co6) := (blk_cell BK434.out 0).trans rfl; have hfz13_0 := blk_frozen BK434.out 0))
  go_ret
  exact ⟨_, by first | rfl | (simp [errW_none, errW_some] <;> rfl) | (simp [*, errW_none, errW_some] <;> rfl), by (with_reducible repeat (first | apply Kd.R_alloc | apply Kd.R_drewN | apply Kd.R_drew)); exact HO433.out, by repeat (first | (with_reducible first | exact HB.out | apply below_alloc | apply pw_below_drewN | apply below_drew1 | refine below_set ?_ GE434.out) | exact HB.out)⟩

/-! ### gangwayref20_Stream: function 30 -/
def gangwayref20_Stream.f  : Option (List Int) := (some (List.replicate 64 0 : List Int)).bind fun y437 => (if 16 < (y437.length : Int) then (if 24 < (y437.length : Int) then (some ((y437.set (16 : Int).toNat 2).set (24 : Int).toNat 1)) else (none)) else (none))
set_option maxHeartbeats 8000000 in
set_option maxRecDepth 100000 in
theorem gangwayref20_Stream.calls  (r : List Int) (w : World) (h : gangwayref20_Stream.f  = some r) :
    Calls Try.prog 30 #[] w fun e w' => ∃ v0_ : Value, e = .returned (v0_) ∧ Kd.R (Kd.int .u8) 5 w' w.heap.size (fun _ => True) v0_ r ∧ Below w.heap.size w w' := by
  have HB := Aside0.mk (Below.refl w.heap.size w)
  have H : ((some (List.replicate 64 0 : List Int)).bind fun y437 => (if 16 < (y437.length : Int) then (if 24 < (y437.length : Int) then (some ((y437.set (16 : Int).toNat 2).set (24 : Int).toNat 1)) else (none)) else (none))) = some r := h
  clear h
  obtain ⟨y437, hy437⟩ : ∃ y_ : List Int, y_ = (List.replicate 64 0) := ⟨_, rfl⟩
  replace H : (if 16 < (y437.length : Int) then (if 24 < (y437.length : Int) then (some ((y437.set (16 : Int).toNat 2).set (24 : Int).toNat 1)) else (none)) else (none)) = some r := by first | (rw [hy437]; with_reducible exact H) | (have H2_ := (Option.bind_some _ _).symm.trans H; rw [hy437]; with_reducible exact H2_) | (have H2_ := (Option.bind_some _ _).symm.trans H; with_reducible exact H2_) | with_reducible exact H | (rw [hy437]; exact H) | exact H
  have Ny437 := Aside0.mk hy437
  clear hy437
  by_cases c1 : 16 < (y437.length : Int)
  · rw [if_pos c1] at H
    have c1b0 : decide (16 < (y437.length : Int)) = true := decide_eq_true c1
    have c1b1 : decide (16 < y437.length) = true := decide_eq_true (by omega)
    clear c1
    obtain ⟨y440, hy440⟩ : ∃ y_ : List Int, y_ = (y437.set (16 : Int).toNat 2) := ⟨_, rfl⟩
    replace H : (if 24 < (y437.length : Int) then (some (y440.set (24 : Int).toNat 1)) else (none)) = some r := by first | (rw [hy440]; with_reducible exact H) | (have H2_ := (Option.bind_some _ _).symm.trans H; rw [hy440]; with_reducible exact H2_) | (have H2_ := (Option.bind_some _ _).symm.trans H; with_reducible exact H2_) | with_reducible exact H | (rw [hy440]; exact H) | exact H
    have Ny440 := Aside0.mk hy440
    clear hy440
    by_cases c3 : 24 < (y437.length : Int)
    · rw [if_pos c3] at H
      have c3b0 : decide (24 < (y437.length : Int)) = true := decide_eq_true c3
      have c3b1 : decide (24 < y437.length) = true := decide_eq_true (by omega)
      clear c3
      obtain ⟨y441, hy441⟩ : ∃ y_ : List Int, y_ = (y440.set (24 : Int).toNat 1) := ⟨_, rfl⟩
      replace H : (some y441) = some r := by first | (rw [hy441]; with_reducible exact H) | (have H2_ := (Option.bind_some _ _).symm.trans H; rw [hy441]; with_reducible exact H2_) | (have H2_ := (Option.bind_some _ _).symm.trans H; with_reducible exact H2_) | with_reducible exact H | (rw [hy441]; exact H) | exact H
      have Ny441 := Aside0.mk hy441
      clear hy441
      obtain rfl := Option.some.inj H
      go_enter Try.func30, Try.ntmps30
      go_wp2_with (first | ((with_reducible refine gate_dst (N := 2) rfl ?_); refine Kd.R_make (Kd.int .u8) _ 5 rfl (N := 2) rfl 23 _ _ rfl 64 rfl rfl Try.underlying23 (.int .u8 0) 1 info5 rfl (by decide) (by omega) 0 (ok := fun _ => True) (okp := fun _ => True) rfl (fun _ hk => hk) trivial (by omega) (by omega) (Below.refl _ _) (Nat.le_refl _) ?_; intro v438 w5 ho6 hb hg_ hnew_; clear hg_ hnew_; (first | rw [← Ny437.out] at ho6 | (simp only [Int.reduceToNat] at ho6; rw [← Ny437.out] at ho6)); have n0_ := Aside0.mk (Kd.R_lower ho6 (below_size (by repeat (first | (with_reducible first | exact HB.out | apply below_alloc | apply pw_below_drewN | apply below_drew1) | exact HB.out)))); have n1_ := Aside0.mk (below_step (by repeat (first | (with_reducible first | exact HB.out | apply below_alloc | apply pw_below_drewN | apply below_drew1) | exact HB.out)) hb); clear HB; have HO439 := n0_; have HB := n1_; clear n0_ n1_; clear hb ho6; have p2 : 0 ≤ (16 : Int) := (by omega); have q2 : (16 : Int) < ((y437.length : Int) : Int) := of_decide_eq_true (by first | (with_reducible assumption) | assumption); have qi2 : (16 < y437.length) = True := eq_true (by omega); obtain ⟨go2, co2, eo2, gb2, gl2, cl2, HG2⟩ := Kd.R_form HO439.out (by omega); (first | cases eo2 | (injection eo2 with ea_ en_ ec_; (first | subst ea_ | (injection ea_ with ea_; subst ea_)); subst ec_; clear en_)); have GB2 := Aside0.mk gb2; have GG2 := Aside0.mk HG2; clear gb2 gl2 HG2; obtain ⟨hx2_0, hf2_0⟩ := Kd.R_celln 0 HO439.out (16 : Int) p2 q2; (try rw [show ((16 : Int)).toNat = 16 from rfl] at hx2_0); (try simp only [Nat.reduceMul, Nat.zero_mul, Nat.zero_add, Nat.reduceAdd] at hx2_0); (try rw [show ((16 : Int)).toNat = 16 from rfl] at hf2_0); (try simp only [Nat.reduceMul, Nat.zero_mul, Nat.zero_add, Nat.reduceAdd] at hf2_0); replace p2 := eq_true p2; replace q2 := eq_true q2; obtain ⟨hy7_, hz7_⟩ := Kd.R_celln 0 HO439.out (16 : Int) (by omega) (of_decide_eq_true (by first | (with_reducible assumption) | assumption)); (try simp only [Int.reduceToNat, Int.toNat_zero, Int.toNat_ofNat, Nat.reduceMul, Nat.zero_mul, Nat.zero_add] at hy7_ hz7_); (try rw [show ((16 : Int)).toNat = 16 from rfl] at hy7_); (try rw [show ((16 : Int)).toNat = 16 from rfl] at hz7_); have HP7 := Kd.R_putg HO439.out (16 : Int) 2) | ((with_reducible refine gate_store (t := 5) (p := 4) rfl ?_); refine store_event (t := 5) (p := 4) (v := ?vo_w8) (w1 := (w5.setCell ⟨go2, (16 : Int).toNat, none⟩ (.int .u8 2))) ?hg ?ho ?hn ?hr ?_; (case ho => rfl); (case hg => rfl); (case hn => rfl); (case hr => first | (go_simp; done) | (go_simp; rfl)); intro w8 hw; have hg : w5.grownBy w8 (some go2) := (by rw [hw]; exact HP7.2); have hp_ : Kd.R (Kd.int .u8) 5 w8 w.heap.size (fun _ => True) (.slice (some ⟨go2, 0, none⟩) y437.length co2) y440 := (by rw [hw, Ny440.out]; exact HP7.1); clear HP7; have n0_ := Aside0.mk (hp_); have n1_ := Aside0.mk ((by rw [hw]; exact below_set (HB.out) GB2.out : Below w.heap.size w w8)); clear HO439; clear HB; have HO439 := n0_; have HB := n1_; clear n0_ n1_; clear hg hw hp_; have p4 : 0 ≤ (24 : Int) := (by omega); have q4 : (24 : Int) < ((y437.length : Int) : Int) := of_decide_eq_true (by first | (with_reducible assumption) | assumption); have qi4 : (24 < y437.length) = True := eq_true (by omega); obtain ⟨hx4_0, hf4_0⟩ := Kd.R_celln 0 HO439.out (24 : Int) p4 q4; (try rw [show ((24 : Int)).toNat = 24 from rfl] at hx4_0); (try simp only [Nat.reduceMul, Nat.zero_mul, Nat.zero_add, Nat.reduceAdd] at hx4_0); (try rw [show ((24 : Int)).toNat = 24 from rfl] at hf4_0); (try simp only [Nat.reduceMul, Nat.zero_mul, Nat.zero_add, Nat.reduceAdd] at hf4_0); replace p4 := eq_true p4; replace q4 := eq_true q4; obtain ⟨hy9_, hz9_⟩ := Kd.R_celln 0 HO439.out (24 : Int) (by omega) (of_decide_eq_true (by first | (with_reducible assumption) | assumption)); (try simp only [Int.reduceToNat, Int.toNat_zero, Int.toNat_ofNat, Nat.reduceMul, Nat.zero_mul, Nat.zero_add] at hy9_ hz9_); (try rw [show ((24 : Int)).toNat = 24 from rfl] at hy9_); (try rw [show ((24 : Int)).toNat = 24 from rfl] at hz9_); have HP9 := Kd.R_putg HO439.out (24 : Int) 1) | ((with_reducible refine gate_store (t := 5) (p := 6) rfl ?_); refine store_event (t := 5) (p := 6) (v := ?vo_w10) (w1 := (w8.setCell ⟨go2, (24 : Int).toNat, none⟩ (.int .u8 1))) ?hg ?ho ?hn ?hr ?_; (case ho => rfl); (case hg => rfl); (case hn => rfl); (case hr => first | (go_simp; done) | (go_simp; rfl)); intro w10 hw; have hg : w8.grownBy w10 (some go2) := (by rw [hw]; exact HP9.2); have hp_ : Kd.R (Kd.int .u8) 5 w10 w.heap.size (fun _ => True) (.slice (some ⟨go2, 0, none⟩) y437.length co2) y441 := (by rw [hw, Ny441.out]; exact HP9.1); clear HP9; have n0_ := Aside0.mk (hp_); have n1_ := Aside0.mk ((by rw [hw]; exact below_set (HB.out) GB2.out : Below w.heap.size w w10)); clear HO439; clear HB; have HO439 := n0_; have HB := n1_; clear n0_ n1_; clear hg hw hp_))
      go_ret
      exact ⟨_, by first | rfl | (simp [errW_none, errW_some] <;> rfl) | (simp [*, errW_none, errW_some] <;> rfl), by (with_reducible repeat (first | apply Kd.R_alloc | apply Kd.R_drewN | apply Kd.R_drew)); exact HO439.out, by repeat (first | (with_reducible first | exact HB.out | apply below_alloc | apply pw_below_drewN | apply below_drew1) | exact HB.out)⟩
    · rw [if_neg c3] at H
      exact absurd H (by simp)
  · rw [if_neg c1] at H
    exact absurd H (by simp)

end Go.Proofs.Ythhmnecnoojcpaa.PAll
