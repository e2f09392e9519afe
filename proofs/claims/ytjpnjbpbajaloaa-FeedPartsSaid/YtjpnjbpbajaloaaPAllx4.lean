/- Printed by a copy of the printer that was turned for this claim: functions as plain Lean functions, with proofs that their calls come to these; or words that such proofs use. -/
import Derived.Test.YtjpnjbpbajaloaaPAllx0
import Derived.Test.YtjpnjbpbajaloaaPAllx1
import Derived.Test.YtjpnjbpbajaloaaPAllx2
import Derived.Test.YtjpnjbpbajaloaaPAllx3
namespace Go.Proofs.Ytjpnjbpbajaloaa.PAll
open Go.RowKit Go.Proofs.YtjpnjbpbajaloaaW.PrintWords Go.Proofs.YtjpnjbpbajaloaaW.PrintLast Go.Proofs.YtjpnjbpbajaloaaW.PrintMore
attribute [local go_sem] max2_int min2_int max_two min_two max_three min_three max_four min_four   -- for this text's walks alone
set_option linter.unusedVariables false
set_option linter.unusedSimpArgs false

/-! ### gangwayref23_May: function 14 -/
def gangwayref23_May.l0 : Nat → Int → List Int → List Int → List Int → Option (Bool)
  | 0, _, _, _, _ => none
  | k + 1, x3, x284000, x284001, x284002 => if x3 < (x284000.length : Int) then (if 0 ≤ x3 then ((gangwayref0_Time.f (rd x284000 x3)).bind fun t285 => (if t285 = true then (if x3 > 0 then (if 0 ≤ (wrap64 (x3 - 1)) then (if (wrap64 (x3 - 1)) < (x284000.length : Int) then (if (rd x284000 x3) < (rd x284000 (wrap64 (x3 - 1))) then (some false) else (gangwayref23_May.l0 k (wrap64 (x3 + 1)) x284000 x284001 x284002)) else (none)) else (none)) else (gangwayref23_May.l0 k (wrap64 (x3 + 1)) x284000 x284001 x284002)) else (some false))) else (none)) else (some true)
def gangwayref23_May.f (k : Nat) (l0_0 : List Int) (l0_1 : List Int) (l0_2 : List Int) : Option (Bool) := gangwayref23_May.l0 k 0 l0_0 l0_1 l0_2
theorem gangwayref23_May.mono_l : ∀ k, (∀ y0 y1 y2 y3, LeO (gangwayref23_May.l0 k y0 y1 y2 y3) (gangwayref23_May.l0 (k + 1) y0 y1 y2 y3))
  | 0 => fun _ _ _ _ r h => by simp [gangwayref23_May.l0] at h
  | k + 1 => by
    have ih0 := gangwayref23_May.mono_l k
    · intro y0 y1 y2 y3
      unfold gangwayref23_May.l0
      repeat' first
      | (with_reducible exact ih0 _ _ _ _)
      | (with_reducible exact LeO.refl _)
      | (with_reducible exact LeO.none _)
      | (with_reducible refine LeO.ite ?_ ?_)
      | (with_reducible refine LeO.bind ?_ (fun _ => ?_))
      | exact ih0 _ _ _ _
      | exact LeO.none _
      | refine LeO.ite ?_ ?_
      | refine LeO.bind ?_ (fun _ => ?_)
theorem gangwayref23_May.mono : ∀ a0 a1 a2 k, LeO (gangwayref23_May.f k a0 a1 a2) (gangwayref23_May.f (k + 1) a0 a1 a2) := by
  intro a0 a1 a2 k
  have ih0 := gangwayref23_May.mono_l k
  unfold gangwayref23_May.f
  repeat' first
      | (with_reducible exact ih0 _ _ _ _)
      | (with_reducible exact LeO.refl _)
      | (with_reducible exact LeO.none _)
      | (with_reducible refine LeO.ite ?_ ?_)
      | (with_reducible refine LeO.bind ?_ (fun _ => ?_))
      | exact ih0 _ _ _ _
      | exact LeO.none _
      | refine LeO.ite ?_ ?_
      | refine LeO.bind ?_ (fun _ => ?_)
set_option maxHeartbeats 8000000 in
set_option maxRecDepth 100000 in
theorem gangwayref23_May.calls (k : Nat) (A0_0 : Option Addr) (c0_0 : Nat) (l0_0 : List Int) (A0_1 : Option Addr) (c0_1 : Nat) (l0_1 : List Int) (A0_2 : Option Addr) (c0_2 : Nat) (l0_2 : List Int) (r : Bool) (w : World) (hr0_0 : Kd.C (Kd.int .i64) w A0_0 l0_0.length l0_0) (hc0_0 : l0_0.length ≤ c0_0) (hr0_1 : Kd.C (Kd.int .u8) w A0_1 l0_1.length l0_1) (hc0_1 : l0_1.length ≤ c0_1) (hr0_2 : Kd.C (Kd.int .u8) w A0_2 l0_2.length l0_2) (hc0_2 : l0_2.length ≤ c0_2) (h : gangwayref23_May.f k l0_0 l0_1 l0_2 = some r) :
    Calls Try.prog 14 #[.agg #[.slice A0_0 l0_0.length c0_0, .slice A0_1 l0_1.length c0_1, .slice A0_2 l0_2.length c0_2]] w fun e w' => e = .returned (.bool r) ∧ Below w.heap.size w w' := by
  have hu25 := Try.underlying25
  have HR0_0 := Aside0.mk hr0_0
  have HC0_0 := Aside0.mk hc0_0
  clear hr0_0 hc0_0
  have HR0_1 := Aside0.mk hr0_1
  have HC0_1 := Aside0.mk hc0_1
  clear hr0_1 hc0_1
  have HR0_2 := Aside0.mk hr0_2
  have HC0_2 := Aside0.mk hc0_2
  clear hr0_2 hc0_2
  have HB := Aside0.mk (Below.refl w.heap.size w)
  have H : (gangwayref23_May.l0 k 0 l0_0 l0_1 l0_2) = some r := h
  clear h
  have H' := Aside0.mk H
  clear H
  go_enter Try.func14, Try.ntmps14
  go_wp2_with (first | ((with_reducible refine gate_dst (N := 1) rfl ?_); refine box_event ?hg (N := 1) ?hd (cs := #[.slice A0_0 l0_0.length c0_0, .slice A0_1 l0_1.length c0_1, .slice A0_2 l0_2.length c0_2]) (t := 25) ?hr ?_; (case hd => rfl); (case hg => rfl); (case hr => first | (go_simp; done) | (go_simp; rfl)); intro gb283 hg w2 hbox hb; have n0_ := Aside0.mk (below_step (by repeat (first | (with_reducible first | exact HB.out | apply below_alloc | apply pw_below_drewN | apply below_drew1) | exact HB.out)) hb); have n1_ := Aside0.mk (hbox); have n2_ := Aside0.mk ((by rw [hg]; exact (below_size (by repeat (first | (with_reducible first | exact HB.out | apply below_alloc | apply pw_below_drewN | apply below_drew1) | exact HB.out))) : w.heap.size ≤ gb283)); have n3_ := Aside0.mk ((by rw [hg]; exact (below_size (by repeat (first | (with_reducible first | exact HB.out | apply below_alloc | apply pw_below_drewN | apply below_drew1) | exact HB.out))) : w.heap.size ≤ gb283)); clear HB; have HB := n0_; have BK283 := n1_; have GW283 := n2_; have GE283 := n3_; clear n0_ n1_ n2_ n3_; clear hb hbox hg))
  repeat (go_quiet (first | ((with_reducible refine gate_dst (N := 1) rfl ?_); refine box_event ?hg (N := 1) ?hd (cs := #[.slice A0_0 l0_0.length c0_0, .slice A0_1 l0_1.length c0_1, .slice A0_2 l0_2.length c0_2]) (t := 25) ?hr ?_; (case hd => rfl); (case hg => rfl); (case hr => first | (go_simp; done) | (go_simp; rfl)); intro gb283 hg w2 hbox hb; have n0_ := Aside0.mk (below_step (by repeat (first | (with_reducible first | exact HB.out | apply below_alloc | apply pw_below_drewN | apply below_drew1) | exact HB.out)) hb); have n1_ := Aside0.mk (hbox); have n2_ := Aside0.mk ((by rw [hg]; exact (below_size (by repeat (first | (with_reducible first | exact HB.out | apply below_alloc | apply pw_below_drewN | apply below_drew1) | exact HB.out))) : w.heap.size ≤ gb283)); have n3_ := Aside0.mk ((by rw [hg]; exact (below_size (by repeat (first | (with_reducible first | exact HB.out | apply below_alloc | apply pw_below_drewN | apply below_drew1) | exact HB.out))) : w.heap.size ≤ gb283)); clear HB; have HB := n0_; have BK283 := n1_; have GW283 := n2_; have GE283 := n3_; clear n0_ n1_ n2_ n3_; clear hb hbox hg)); try go_wp2_with (first | ((with_reducible refine gate_dst (N := 1) rfl ?_); refine box_event ?hg (N := 1) ?hd (cs := #[.slice A0_0 l0_0.length c0_0, .slice A0_1 l0_1.length c0_1, .slice A0_2 l0_2.length c0_2]) (t := 25) ?hr ?_; (case hd => rfl); (case hg => rfl); (case hr => first | (go_simp; done) | (go_simp; rfl)); intro gb283 hg w2 hbox hb; have n0_ := Aside0.mk (below_step (by repeat (first | (with_reducible first | exact HB.out | apply below_alloc | apply pw_below_drewN | apply below_drew1) | exact HB.out)) hb); have n1_ := Aside0.mk (hbox); have n2_ := Aside0.mk ((by rw [hg]; exact (below_size (by repeat (first | (with_reducible first | exact HB.out | apply below_alloc | apply pw_below_drewN | apply below_drew1) | exact HB.out))) : w.heap.size ≤ gb283)); have n3_ := Aside0.mk ((by rw [hg]; exact (below_size (by repeat (first | (with_reducible first | exact HB.out | apply below_alloc | apply pw_below_drewN | apply below_drew1) | exact HB.out))) : w.heap.size ≤ gb283)); clear HB; have HB := n0_; have BK283 := n1_; have GW283 := n2_; have GE283 := n3_; clear n0_ n1_ n2_ n3_; clear hb hbox hg)))
  go_loopg [3] k (fun kq v3 w' => ∃ (x3_1 : Int), v3 = .int .i64 x3_1 ∧ Aside0 (gangwayref23_May.l0 kq x3_1 l0_0 l0_1 l0_2 = some r) ∧ Aside0 (kq ≤ k) ∧ Aside0 (w'.heap[gb283]? = some (.cells #[(.slice A0_0 l0_0.length c0_0), (.slice A0_1 l0_1.length c0_1), (.slice A0_2 l0_2.length c0_2)] 25 (0, 0))) ∧ Aside0 (Below w.heap.size w w'))
  case atStart => exact ⟨(0), (by first | rfl | (simp; done) | (simp [*]; done)), H', ⟨Nat.le_refl _⟩, ⟨by (with_reducible repeat (first | refine blk_drewN ?_ _ | refine blk_drew ?_ | refine blk_alloc ?_ _)); exact BK283.out⟩, ⟨by repeat (first | (with_reducible first | exact HB.out | apply below_alloc | apply pw_below_drewN | apply below_drew1 | refine below_set ?_ GE283.out) | exact HB.out)⟩⟩
  case round =>
    clear H'
    try clear c1
    try clear p2
    obtain ⟨x3_1, rfl, HA, HK1, BK283, HB⟩ := hrel
    cases gk with
    | zero => exact absurd HA.out (by simp [gangwayref23_May.l0])
    | succ k1 =>
      have H := HA.out
      clear HA
      simp only [gangwayref23_May.l0] at H
      by_cases c3 : x3_1 < (l0_0.length : Int)
      · rw [if_pos c3] at H
        have c3b0 : decide (x3_1 < (l0_0.length : Int)) = true := decide_eq_true c3
        clear c3
        by_cases c4 : 0 ≤ x3_1
        · rw [if_pos c4] at H
          have c4b0 : decide (0 ≤ x3_1) = true := decide_eq_true c4
          clear c4
          replace H := Option.bind_eq_some_iff.mp H
          obtain ⟨t285, A50, H⟩ := H
          replace H : (if t285 = true then (if x3_1 > 0 then (if 0 ≤ (wrap64 (x3_1 - 1)) then (if (wrap64 (x3_1 - 1)) < (l0_0.length : Int) then (if (rd l0_0 x3_1) < (rd l0_0 (wrap64 (x3_1 - 1))) then (some false) else (gangwayref23_May.l0 k1 (wrap64 (x3_1 + 1)) l0_0 l0_1 l0_2)) else (none)) else (none)) else (gangwayref23_May.l0 k1 (wrap64 (x3_1 + 1)) l0_0 l0_1 l0_2)) else (some false)) = some r := H
          have A5 := Aside0.mk A50
          clear A50
          by_cases c6 : t285 = true
          · subst c6
            have H1 : (if x3_1 > 0 then (if 0 ≤ (wrap64 (x3_1 - 1)) then (if (wrap64 (x3_1 - 1)) < (l0_0.length : Int) then (if (rd l0_0 x3_1) < (rd l0_0 (wrap64 (x3_1 - 1))) then (some false) else (gangwayref23_May.l0 k1 (wrap64 (x3_1 + 1)) l0_0 l0_1 l0_2)) else (none)) else (none)) else (gangwayref23_May.l0 k1 (wrap64 (x3_1 + 1)) l0_0 l0_1 l0_2)) = some r := by rw [if_pos rfl] at H; exact H
            clear H
            have H := H1
            clear H1
            by_cases c7 : x3_1 > 0
            · rw [if_pos c7] at H
              have c7b0 : decide (0 < x3_1) = true := decide_eq_true c7
              clear c7
              obtain ⟨ji8, hji8⟩ : ∃ j_ : Int, (wrap64 (x3_1 - 1)) = j_ := ⟨_, rfl⟩
              replace H : (if 0 ≤ (ji8) then (if (ji8) < (l0_0.length : Int) then (if (rd l0_0 x3_1) < (rd l0_0 (ji8)) then (some false) else (gangwayref23_May.l0 k1 (wrap64 (x3_1 + 1)) l0_0 l0_1 l0_2)) else (none)) else (none)) = some r := by first | (rw [hji8] at H; exact H) | (simp only [hji8] at H ⊢; exact H)
              (try rw [hji8] at A5)
              have hji8w : (IntKind.i64.wrap (x3_1 - 1)) = ji8 := (i64_w _).trans hji8
              by_cases c9 : 0 ≤ (ji8)
              · rw [if_pos c9] at H
                have c9b0 : decide (0 ≤ (ji8)) = true := decide_eq_true c9
                clear c9
                by_cases c10 : (ji8) < (l0_0.length : Int)
                · rw [if_pos c10] at H
                  have c10b0 : decide ((ji8) < (l0_0.length : Int)) = true := decide_eq_true c10
                  clear c10
                  by_cases c11 : (rd l0_0 x3_1) < (rd l0_0 (ji8))
                  · rw [if_pos c11] at H
                    have c11b0 : decide ((rd l0_0 x3_1) < (rd l0_0 (ji8))) = true := decide_eq_true c11
                    clear c11
                    obtain rfl := Option.some.inj H
                    have hcz12_0 : wr.cell? ⟨gb283, 0, none⟩ = some (.slice A0_0 l0_0.length c0_0) := (blk_cell BK283.out 0).trans rfl
                    have hcz12_1 : wr.cell? ⟨gb283, 1, none⟩ = some (.slice A0_1 l0_1.length c0_1) := (blk_cell BK283.out 1).trans rfl
                    have hcz12_2 : wr.cell? ⟨gb283, 2, none⟩ = some (.slice A0_2 l0_2.length c0_2) := (blk_cell BK283.out 2).trans rfl
                    have hfz12_0 := blk_frozen BK283.out 0
                    have hfz12_1 := blk_frozen BK283.out 1
                    have hfz12_2 := blk_frozen BK283.out 2
                    have p284 : 0 ≤ (x3_1 : Int) := of_decide_eq_true (by first | (with_reducible assumption) | assumption)
                    have q284 : x3_1 < (l0_0.length : Int) := of_decide_eq_true (by first | (with_reducible assumption) | assumption)
                    obtain ⟨ad284, e284, hx284_0⟩ := Kd.at_int HR0_0.out x3_1 p284 q284
                    cases e284
                    replace hx284_0 := (HB.out.cell (World.block_lt_of_cell? w _ hx284_0)).trans hx284_0
                    replace p284 := eq_true p284
                    replace q284 := eq_true q284
                    go_wp2_with (first | (go_at_call 29; (with_reducible refine (gangwayref0_Time.calls (rd l0_0 x3_1) true _ A5.out).mono ?_); rintro e w' ⟨rfl, ⟨nd, rfl⟩⟩; (try first | exact ⟨rfl, _, World.drewN_drewN _ _ _⟩ | exact ⟨rfl, _, Eq.trans (World.drewN_drewN _ _ _) (congrArg (World.drewN _) (Nat.add_assoc _ _ _))⟩); have p286 : 0 ≤ (x3_1 : Int) := of_decide_eq_true (by first | (with_reducible assumption) | assumption); have q286 : x3_1 < (l0_0.length : Int) := of_decide_eq_true (by first | (with_reducible assumption) | assumption); obtain ⟨ad286, e286, hx286_0⟩ := Kd.at_int HR0_0.out x3_1 p286 q286; obtain rfl : ad284 = ad286 := (by injection e286); replace hx286_0 := (HB.out.cell (World.block_lt_of_cell? w _ hx286_0)).trans hx286_0; replace p286 := eq_true p286; replace q286 := eq_true q286; have p287 : 0 ≤ ((ji8) : Int) := of_decide_eq_true (by first | (with_reducible assumption) | assumption); have q287 : (ji8) < (l0_0.length : Int) := of_decide_eq_true (by first | (with_reducible assumption) | assumption); obtain ⟨ad287, e287, hx287_0⟩ := Kd.at_int HR0_0.out (ji8) p287 q287; obtain rfl : ad284 = ad287 := (by injection e287); replace hx287_0 := (HB.out.cell (World.block_lt_of_cell? w _ hx287_0)).trans hx287_0; replace p287 := eq_true p287; replace q287 := eq_true q287))
                    repeat (go_quiet (first | (go_at_call 29; (with_reducible refine (gangwayref0_Time.calls (rd l0_0 x3_1) true _ A5.out).mono ?_); rintro e w' ⟨rfl, ⟨nd, rfl⟩⟩; (try first | exact ⟨rfl, _, World.drewN_drewN _ _ _⟩ | exact ⟨rfl, _, Eq.trans (World.drewN_drewN _ _ _) (congrArg (World.drewN _) (Nat.add_assoc _ _ _))⟩); have p286 : 0 ≤ (x3_1 : Int) := of_decide_eq_true (by first | (with_reducible assumption) | assumption); have q286 : x3_1 < (l0_0.length : Int) := of_decide_eq_true (by first | (with_reducible assumption) | assumption); obtain ⟨ad286, e286, hx286_0⟩ := Kd.at_int HR0_0.out x3_1 p286 q286; obtain rfl : ad284 = ad286 := (by injection e286); replace hx286_0 := (HB.out.cell (World.block_lt_of_cell? w _ hx286_0)).trans hx286_0; replace p286 := eq_true p286; replace q286 := eq_true q286; have p287 : 0 ≤ ((ji8) : Int) := of_decide_eq_true (by first | (with_reducible assumption) | assumption); have q287 : (ji8) < (l0_0.length : Int) := of_decide_eq_true (by first | (with_reducible assumption) | assumption); obtain ⟨ad287, e287, hx287_0⟩ := Kd.at_int HR0_0.out (ji8) p287 q287; obtain rfl : ad284 = ad287 := (by injection e287); replace hx287_0 := (HB.out.cell (World.block_lt_of_cell? w _ hx287_0)).trans hx287_0; replace p287 := eq_true p287; replace q287 := eq_true q287)); try go_wp2_with (first | (go_at_call 29; (with_reducible refine (gangwayref0_Time.calls (rd l0_0 x3_1) true _ A5.out).mono ?_); rintro e w' ⟨rfl, ⟨nd, rfl⟩⟩; (try first | exact ⟨rfl, _, World.drewN_drewN _ _ _⟩ | exact ⟨rfl, _, Eq.trans (World.drewN_drewN _ _ _) (congrArg (World.drewN _) (Nat.add_assoc _ _ _))⟩); have p286 : 0 ≤ (x3_1 : Int) := of_decide_eq_true (by first | (with_reducible assumption) | assumption); have q286 : x3_1 < (l0_0.length : Int) := of_decide_eq_true (by first | (with_reducible assumption) | assumption); obtain ⟨ad286, e286, hx286_0⟩ := Kd.at_int HR0_0.out x3_1 p286 q286; obtain rfl : ad284 = ad286 := (by injection e286); replace hx286_0 := (HB.out.cell (World.block_lt_of_cell? w _ hx286_0)).trans hx286_0; replace p286 := eq_true p286; replace q286 := eq_true q286; have p287 : 0 ≤ ((ji8) : Int) := of_decide_eq_true (by first | (with_reducible assumption) | assumption); have q287 : (ji8) < (l0_0.length : Int) := of_decide_eq_true (by first | (with_reducible assumption) | assumption); obtain ⟨ad287, e287, hx287_0⟩ := Kd.at_int HR0_0.out (ji8) p287 q287; obtain rfl : ad284 = ad287 := (by injection e287); replace hx287_0 := (HB.out.cell (World.block_lt_of_cell? w _ hx287_0)).trans hx287_0; replace p287 := eq_true p287; replace q287 := eq_true q287)))
                    go_ret
                    exact ⟨by first | rfl | (simp [errW_none, errW_some] <;> rfl) | (simp only [← hji8]; first | rfl | (simp [errW_none, errW_some] <;> rfl)) | (simp [*, errW_none, errW_some] <;> rfl), by repeat (first | (with_reducible first | exact HB.out | apply below_alloc | apply pw_below_drewN | apply below_drew1 | refine below_set ?_ GE283.out) | exact HB.out)⟩
                  · rw [if_neg c11] at H
                    have c11b0 : decide ((rd l0_0 x3_1) < (rd l0_0 (ji8))) = false := decide_eq_false c11
                    clear c11
                    have H' := Aside0.mk H
                    clear H
                    have hcz13_0 : wr.cell? ⟨gb283, 0, none⟩ = some (.slice A0_0 l0_0.length c0_0) := (blk_cell BK283.out 0).trans rfl
                    have hcz13_1 : wr.cell? ⟨gb283, 1, none⟩ = some (.slice A0_1 l0_1.length c0_1) := (blk_cell BK283.out 1).trans rfl
                    have hcz13_2 : wr.cell? ⟨gb283, 2, none⟩ = some (.slice A0_2 l0_2.length c0_2) := (blk_cell BK283.out 2).trans rfl
                    have hfz13_0 := blk_frozen BK283.out 0
                    have hfz13_1 := blk_frozen BK283.out 1
                    have hfz13_2 := blk_frozen BK283.out 2
                    have p284 : 0 ≤ (x3_1 : Int) := of_decide_eq_true (by first | (with_reducible assumption) | assumption)
                    have q284 : x3_1 < (l0_0.length : Int) := of_decide_eq_true (by first | (with_reducible assumption) | assumption)
                    obtain ⟨ad284, e284, hx284_0⟩ := Kd.at_int HR0_0.out x3_1 p284 q284
                    cases e284
                    replace hx284_0 := (HB.out.cell (World.block_lt_of_cell? w _ hx284_0)).trans hx284_0
                    replace p284 := eq_true p284
                    replace q284 := eq_true q284
                    go_wp2_with (first | (go_at_call 29; (with_reducible refine (gangwayref0_Time.calls (rd l0_0 x3_1) true _ A5.out).mono ?_); rintro e w' ⟨rfl, ⟨nd, rfl⟩⟩; (try first | exact ⟨rfl, _, World.drewN_drewN _ _ _⟩ | exact ⟨rfl, _, Eq.trans (World.drewN_drewN _ _ _) (congrArg (World.drewN _) (Nat.add_assoc _ _ _))⟩); have p286 : 0 ≤ (x3_1 : Int) := of_decide_eq_true (by first | (with_reducible assumption) | assumption); have q286 : x3_1 < (l0_0.length : Int) := of_decide_eq_true (by first | (with_reducible assumption) | assumption); obtain ⟨ad286, e286, hx286_0⟩ := Kd.at_int HR0_0.out x3_1 p286 q286; obtain rfl : ad284 = ad286 := (by injection e286); replace hx286_0 := (HB.out.cell (World.block_lt_of_cell? w _ hx286_0)).trans hx286_0; replace p286 := eq_true p286; replace q286 := eq_true q286; have p287 : 0 ≤ ((ji8) : Int) := of_decide_eq_true (by first | (with_reducible assumption) | assumption); have q287 : (ji8) < (l0_0.length : Int) := of_decide_eq_true (by first | (with_reducible assumption) | assumption); obtain ⟨ad287, e287, hx287_0⟩ := Kd.at_int HR0_0.out (ji8) p287 q287; obtain rfl : ad284 = ad287 := (by injection e287); replace hx287_0 := (HB.out.cell (World.block_lt_of_cell? w _ hx287_0)).trans hx287_0; replace p287 := eq_true p287; replace q287 := eq_true q287))
                    repeat (go_quiet (first | (go_at_call 29; (with_reducible refine (gangwayref0_Time.calls (rd l0_0 x3_1) true _ A5.out).mono ?_); rintro e w' ⟨rfl, ⟨nd, rfl⟩⟩; (try first | exact ⟨rfl, _, World.drewN_drewN _ _ _⟩ | exact ⟨rfl, _, Eq.trans (World.drewN_drewN _ _ _) (congrArg (World.drewN _) (Nat.add_assoc _ _ _))⟩); have p286 : 0 ≤ (x3_1 : Int) := of_decide_eq_true (by first | (with_reducible assumption) | assumption); have q286 : x3_1 < (l0_0.length : Int) := of_decide_eq_true (by first | (with_reducible assumption) | assumption); obtain ⟨ad286, e286, hx286_0⟩ := Kd.at_int HR0_0.out x3_1 p286 q286; obtain rfl : ad284 = ad286 := (by injection e286); replace hx286_0 := (HB.out.cell (World.block_lt_of_cell? w _ hx286_0)).trans hx286_0; replace p286 := eq_true p286; replace q286 := eq_true q286; have p287 : 0 ≤ ((ji8) : Int) := of_decide_eq_true (by first | (with_reducible assumption) | assumption); have q287 : (ji8) < (l0_0.length : Int) := of_decide_eq_true (by first | (with_reducible assumption) | assumption); obtain ⟨ad287, e287, hx287_0⟩ := Kd.at_int HR0_0.out (ji8) p287 q287; obtain rfl : ad284 = ad287 := (by injection e287); replace hx287_0 := (HB.out.cell (World.block_lt_of_cell? w _ hx287_0)).trans hx287_0; replace p287 := eq_true p287; replace q287 := eq_true q287)); try go_wp2_with (first | (go_at_call 29; (with_reducible refine (gangwayref0_Time.calls (rd l0_0 x3_1) true _ A5.out).mono ?_); rintro e w' ⟨rfl, ⟨nd, rfl⟩⟩; (try first | exact ⟨rfl, _, World.drewN_drewN _ _ _⟩ | exact ⟨rfl, _, Eq.trans (World.drewN_drewN _ _ _) (congrArg (World.drewN _) (Nat.add_assoc _ _ _))⟩); have p286 : 0 ≤ (x3_1 : Int) := of_decide_eq_true (by first | (with_reducible assumption) | assumption); have q286 : x3_1 < (l0_0.length : Int) := of_decide_eq_true (by first | (with_reducible assumption) | assumption); obtain ⟨ad286, e286, hx286_0⟩ := Kd.at_int HR0_0.out x3_1 p286 q286; obtain rfl : ad284 = ad286 := (by injection e286); replace hx286_0 := (HB.out.cell (World.block_lt_of_cell? w _ hx286_0)).trans hx286_0; replace p286 := eq_true p286; replace q286 := eq_true q286; have p287 : 0 ≤ ((ji8) : Int) := of_decide_eq_true (by first | (with_reducible assumption) | assumption); have q287 : (ji8) < (l0_0.length : Int) := of_decide_eq_true (by first | (with_reducible assumption) | assumption); obtain ⟨ad287, e287, hx287_0⟩ := Kd.at_int HR0_0.out (ji8) p287 q287; obtain rfl : ad284 = ad287 := (by injection e287); replace hx287_0 := (HB.out.cell (World.block_lt_of_cell? w _ hx287_0)).trans hx287_0; replace p287 := eq_true p287; replace q287 := eq_true q287)))
                    go_roundg k1
                    case measure => have := HK1.out; omega
                    case rel => exact ⟨(wrap64 (x3_1 + 1)), (by first | rfl | (simp; done) | (simp [*]; done)), H', ⟨by have := HK1.out; omega⟩, ⟨by (with_reducible repeat (first | refine blk_drewN ?_ _ | refine blk_drew ?_ | refine blk_alloc ?_ _)); exact BK283.out⟩, ⟨by repeat (first | (with_reducible first | exact HB.out | apply below_alloc | apply pw_below_drewN | apply below_drew1 | refine below_set ?_ GE283.out) | exact HB.out)⟩⟩
                · rw [if_neg c10] at H
                  exact absurd H (by simp)
              · rw [if_neg c9] at H
                exact absurd H (by simp)
            · rw [if_neg c7] at H
              have c7b0 : decide (0 < x3_1) = false := decide_eq_false c7
              clear c7
              have H' := Aside0.mk H
              clear H
              have hcz14_0 : wr.cell? ⟨gb283, 0, none⟩ = some (.slice A0_0 l0_0.length c0_0) := (blk_cell BK283.out 0).trans rfl
              have hcz14_1 : wr.cell? ⟨gb283, 1, none⟩ = some (.slice A0_1 l0_1.length c0_1) := (blk_cell BK283.out 1).trans rfl
              have hcz14_2 : wr.cell? ⟨gb283, 2, none⟩ = some (.slice A0_2 l0_2.length c0_2) := (blk_cell BK283.out 2).trans rfl
              have hfz14_0 := blk_frozen BK283.out 0
              have hfz14_1 := blk_frozen BK283.out 1
              have hfz14_2 := blk_frozen BK283.out 2
              have p284 : 0 ≤ (x3_1 : Int) := of_decide_eq_true (by first | (with_reducible assumption) | assumption)
              have q284 : x3_1 < (l0_0.length : Int) := of_decide_eq_true (by first | (with_reducible assumption) | assumption)
              obtain ⟨ad284, e284, hx284_0⟩ := Kd.at_int HR0_0.out x3_1 p284 q284
              cases e284
              replace hx284_0 := (HB.out.cell (World.block_lt_of_cell? w _ hx284_0)).trans hx284_0
              replace p284 := eq_true p284
              replace q284 := eq_true q284
              go_wp2_with (first | (go_at_call 29; (with_reducible refine (gangwayref0_Time.calls (rd l0_0 x3_1) true _ A5.out).mono ?_); rintro e w' ⟨rfl, ⟨nd, rfl⟩⟩; (try first | exact ⟨rfl, _, World.drewN_drewN _ _ _⟩ | exact ⟨rfl, _, Eq.trans (World.drewN_drewN _ _ _) (congrArg (World.drewN _) (Nat.add_assoc _ _ _))⟩)))
              repeat (go_quiet (first | (go_at_call 29; (with_reducible refine (gangwayref0_Time.calls (rd l0_0 x3_1) true _ A5.out).mono ?_); rintro e w' ⟨rfl, ⟨nd, rfl⟩⟩; (try first | exact ⟨rfl, _, World.drewN_drewN _ _ _⟩ | exact ⟨rfl, _, Eq.trans (World.drewN_drewN _ _ _) (congrArg (World.drewN _) (Nat.add_assoc _ _ _))⟩))); try go_wp2_with (first | (go_at_call 29; (with_reducible refine (gangwayref0_Time.calls (rd l0_0 x3_1) true _ A5.out).mono ?_); rintro e w' ⟨rfl, ⟨nd, rfl⟩⟩; (try first | exact ⟨rfl, _, World.drewN_drewN _ _ _⟩ | exact ⟨rfl, _, Eq.trans (World.drewN_drewN _ _ _) (congrArg (World.drewN _) (Nat.add_assoc _ _ _))⟩))))
              go_roundg k1
              case measure => have := HK1.out; omega
              case rel => exact ⟨(wrap64 (x3_1 + 1)), (by first | rfl | (simp; done) | (simp [*]; done)), H', ⟨by have := HK1.out; omega⟩, ⟨by (with_reducible repeat (first | refine blk_drewN ?_ _ | refine blk_drew ?_ | refine blk_alloc ?_ _)); exact BK283.out⟩, ⟨by repeat (first | (with_reducible first | exact HB.out | apply below_alloc | apply pw_below_drewN | apply below_drew1 | refine below_set ?_ GE283.out) | exact HB.out)⟩⟩
          · replace c6 := Bool.eq_false_iff.mpr c6
            subst c6
            have H1 : (some false) = some r := by rw [if_neg (show ¬ (false = true) by decide)] at H; exact H
            clear H
            have H := H1
            clear H1
            obtain rfl := Option.some.inj H
            have hcz15_0 : wr.cell? ⟨gb283, 0, none⟩ = some (.slice A0_0 l0_0.length c0_0) := (blk_cell BK283.out 0).trans rfl
            have hcz15_1 : wr.cell? ⟨gb283, 1, none⟩ = some (.slice A0_1 l0_1.length c0_1) := (blk_cell BK283.out 1).trans rfl
            have hcz15_2 : wr.cell? ⟨gb283, 2, none⟩ = some (.slice A0_2 l0_2.length c0_2) := (blk_cell BK283.out 2).trans rfl
            have hfz15_0 := blk_frozen BK283.out 0
            have hfz15_1 := blk_frozen BK283.out 1
            have hfz15_2 := blk_frozen BK283.out 2
            have p284 : 0 ≤ (x3_1 : Int) := of_decide_eq_true (by first | (with_reducible assumption) | assumption)
            have q284 : x3_1 < (l0_0.length : Int) := of_decide_eq_true (by first | (with_reducible assumption) | assumption)
            obtain ⟨ad284, e284, hx284_0⟩ := Kd.at_int HR0_0.out x3_1 p284 q284
            cases e284
            replace hx284_0 := (HB.out.cell (World.block_lt_of_cell? w _ hx284_0)).trans hx284_0
            replace p284 := eq_true p284
            replace q284 := eq_true q284
            go_wp2_with (first | (go_at_call 29; (with_reducible refine (gangwayref0_Time.calls (rd l0_0 x3_1) false _ A5.out).mono ?_); rintro e w' ⟨rfl, ⟨nd, rfl⟩⟩; (try first | exact ⟨rfl, _, World.drewN_drewN _ _ _⟩ | exact ⟨rfl, _, Eq.trans (World.drewN_drewN _ _ _) (congrArg (World.drewN _) (Nat.add_assoc _ _ _))⟩)))
            repeat (go_quiet (first | (go_at_call 29; (with_reducible refine (gangwayref0_Time.calls (rd l0_0 x3_1) false _ A5.out).mono ?_); rintro e w' ⟨rfl, ⟨nd, rfl⟩⟩; (try first | exact ⟨rfl, _, World.drewN_drewN _ _ _⟩ | exact ⟨rfl, _, Eq.trans (World.drewN_drewN _ _ _) (congrArg (World.drewN _) (Nat.add_assoc _ _ _))⟩))); try go_wp2_with (first | (go_at_call 29; (with_reducible refine (gangwayref0_Time.calls (rd l0_0 x3_1) false _ A5.out).mono ?_); rintro e w' ⟨rfl, ⟨nd, rfl⟩⟩; (try first | exact ⟨rfl, _, World.drewN_drewN _ _ _⟩ | exact ⟨rfl, _, Eq.trans (World.drewN_drewN _ _ _) (congrArg (World.drewN _) (Nat.add_assoc _ _ _))⟩))))
            go_ret
            exact ⟨by first | rfl | (simp [errW_none, errW_some] <;> rfl) | (simp [*, errW_none, errW_some] <;> rfl), by repeat (first | (with_reducible first | exact HB.out | apply below_alloc | apply pw_below_drewN | apply below_drew1 | refine below_set ?_ GE283.out) | exact HB.out)⟩
        · rw [if_neg c4] at H
          exact absurd H (by simp)
      · rw [if_neg c3] at H
        have c3b0 : decide (x3_1 < (l0_0.length : Int)) = false := decide_eq_false c3
        clear c3
        obtain rfl := Option.some.inj H
        have hcz16_0 : wr.cell? ⟨gb283, 0, none⟩ = some (.slice A0_0 l0_0.length c0_0) := (blk_cell BK283.out 0).trans rfl
        have hcz16_1 : wr.cell? ⟨gb283, 1, none⟩ = some (.slice A0_1 l0_1.length c0_1) := (blk_cell BK283.out 1).trans rfl
        have hcz16_2 : wr.cell? ⟨gb283, 2, none⟩ = some (.slice A0_2 l0_2.length c0_2) := (blk_cell BK283.out 2).trans rfl
        have hfz16_0 := blk_frozen BK283.out 0
        have hfz16_1 := blk_frozen BK283.out 1
        have hfz16_2 := blk_frozen BK283.out 2
        go_wp2
        repeat (go_quiet (fail); try go_wp2)
        go_ret
        exact ⟨by first | rfl | (simp [errW_none, errW_some] <;> rfl) | (simp [*, errW_none, errW_some] <;> rfl), by repeat (first | (with_reducible first | exact HB.out | apply below_alloc | apply pw_below_drewN | apply below_drew1 | refine below_set ?_ GE283.out) | exact HB.out)⟩

/-! ### gangwaylaw0_Within: function 15 -/
def gangwaylaw0_Within.f (a0 : Int) (a1 : Int) : Option (Int) := if (IntKind.u64.wrap (a1)) = 0 then (none) else (some (wrap64 (Int.tmod (IntKind.u64.wrap (a0)) (IntKind.u64.wrap (a1)))))
set_option maxHeartbeats 8000000 in
set_option maxRecDepth 100000 in
theorem gangwaylaw0_Within.calls (a0 : Int) (a1 : Int) (r : Int) (w : World) (h : gangwaylaw0_Within.f a0 a1 = some r) :
    Calls Try.prog 15 #[.int .i64 a0, .int .i64 a1] w fun e w' => e = .returned (.int .i64 r) ∧ Drawn0 w w' := by
  have H : (if (IntKind.u64.wrap (a1)) = 0 then (none) else (some (wrap64 (Int.tmod (IntKind.u64.wrap (a0)) (IntKind.u64.wrap (a1)))))) = some r := h
  clear h
  by_cases c3 : (IntKind.u64.wrap (a1)) = 0
  · rw [if_pos c3] at H
    exact absurd H (by simp)
  · rw [if_neg c3] at H
    have c3b0 : ((IntKind.u64.wrap (a1)) == 0) = false := beq_eq_false_iff_ne.mpr c3
    have c3b1 : ((IntKind.u64.wrap (a1)) != 0) = true := bne_iff_ne.mpr c3
    obtain rfl := Option.some.inj H
    go_enter Try.func15, Try.ntmps15
    go_wp2
    go_ret
    exact ⟨by first | rfl | (simp; done) | (simp [*]; done), by repeat (first | exact Drawn0.refl _ | apply Drawn0.step)⟩

/-- A state of type 43 at block g of W; what its slices lead to came in by w0. -/
def IsS43 (w0 W : World) (g : Nat) (f0 : List Int) (f1 : List Int) (f2 : List Int) (f3 : Int) (f4 : Int) (f5 : Int) : Prop := ∃ A0 c0, ∃ A1 c1, ∃ A2 c2, W.heap[g]? = some (.cells #[.slice A0 f0.length c0, .slice A1 f1.length c1, .slice A2 f2.length c2, .int .i64 f3, .int .i64 f4, .int .i64 f5] 43 (0, 0)) ∧ w0.heap.size ≤ g ∧ Kd.C (Kd.int .i64) w0 A0 f0.length f0 ∧ Kd.C (Kd.int .u8) w0 A1 f1.length f1 ∧ Kd.C (Kd.int .u8) w0 A2 f2.length f2
theorem IsS43.grown {w0 W : World} {g : Nat} {f0 : List Int} {f1 : List Int} {f2 : List Int} {f3 : Int} {f4 : Int} {f5 : Int} {W1 : World} {row : Option Nat} (h : IsS43 w0 W g f0 f1 f2 f3 f4 f5) (hw : W.grownBy W1 row) (hne : some g ≠ row) : IsS43 w0 W1 g f0 f1 f2 f3 f4 f5 := by
  obtain ⟨A0, c0, A1, c1, A2, c2, hb, hg, hr0, hr1, hr2⟩ := h
  exact ⟨A0, c0, A1, c1, A2, c2, blk_grown hb hw hne, hg, hr0, hr1, hr2⟩
theorem IsS43.own_neN {w0 W : World} {g : Nat} {f0 : List Int} {f1 : List Int} {f2 : List Int} {f3 : Int} {f4 : Int} {f5 : Int} {α : Type} {d : Kd α} {e : Nat} {base : Nat} {ok : Nat → Prop} {v : Value} {xs : List α} (h : IsS43 w0 W g f0 f1 f2 f3 f4 f5) (ho : Kd.N d e W base ok v xs) (ht : e ≠ 43) : some g ≠ v.ownBlock := by
  obtain ⟨A0, c0, A1, c1, A2, c2, hb, hg, hr0, hr1, hr2⟩ := h
  exact Kd.N_ne ho hb ht
theorem IsS43.fresh {w0 W : World} {g : Nat} {f0 : List Int} {f1 : List Int} {f2 : List Int} {f3 : Int} {f4 : Int} {f5 : Int} (h : IsS43 w0 W g f0 f1 f2 f3 f4 f5) : ∀ k, W.heap.size ≤ k → k ≠ g := by
  obtain ⟨A0, c0, A1, c1, A2, c2, hb, hg, hr0, hr1, hr2⟩ := h
  exact Kd.freshB hb
theorem IsS43.kept {w0 W : World} {g : Nat} {f0 : List Int} {f1 : List Int} {f2 : List Int} {f3 : Int} {f4 : Int} {f5 : Int} {W1 : World} {S : Nat → Prop} (h : IsS43 w0 W g f0 f1 f2 f3 f4 f5) (hk : Kept W W1 S) (hne : ¬ S g) : IsS43 w0 W1 g f0 f1 f2 f3 f4 f5 := by
  obtain ⟨A0, c0, A1, c1, A2, c2, hb, hg, hr0, hr1, hr2⟩ := h
  exact ⟨A0, c0, A1, c1, A2, c2, blk_kept hb hk hne, hg, hr0, hr1, hr2⟩
theorem IsS43.below {w0 W : World} {g : Nat} {f0 : List Int} {f1 : List Int} {f2 : List Int} {f3 : Int} {f4 : Int} {f5 : Int} {W1 : World} (h : IsS43 w0 W g f0 f1 f2 f3 f4 f5) (hw : Below W.heap.size W W1) : IsS43 w0 W1 g f0 f1 f2 f3 f4 f5 := h.grown (grown_of_below hw none) (by simp)
theorem IsS43.alloc {w0 W : World} {g : Nat} {f0 : List Int} {f1 : List Int} {f2 : List Int} {f3 : Int} {f4 : Int} {f5 : Int} (h : IsS43 w0 W g f0 f1 f2 f3 f4 f5) (o : Obj) : IsS43 w0 (W.alloc o) g f0 f1 f2 f3 f4 f5 := h.below (below_alloc (Below.refl _ _) o)
theorem IsS43.drewN {w0 W : World} {g : Nat} {f0 : List Int} {f1 : List Int} {f2 : List Int} {f3 : Int} {f4 : Int} {f5 : Int} (h : IsS43 w0 W g f0 f1 f2 f3 f4 f5) (m : Nat) : IsS43 w0 (W.drewN m) g f0 f1 f2 f3 f4 f5 := h
theorem IsS43.drew {w0 W : World} {g : Nat} {f0 : List Int} {f1 : List Int} {f2 : List Int} {f3 : Int} {f4 : Int} {f5 : Int} (h : IsS43 w0 W g f0 f1 f2 f3 f4 f5) : IsS43 w0 W.drew g f0 f1 f2 f3 f4 f5 := h
theorem IsS43.at_ {w0 W : World} {g : Nat} {f0 : List Int} {f1 : List Int} {f2 : List Int} {f3 : Int} {f4 : Int} {f5 : Int} {w' : World} {m : Nat} (hq : W.drewN m = w') (h : IsS43 w0 W g f0 f1 f2 f3 f4 f5) : IsS43 w0 w' g f0 f1 f2 f3 f4 f5 := by subst hq; exact IsS43.drewN h m
theorem IsS43.apart {w0 W : World} {g : Nat} {f0 : List Int} {f1 : List Int} {f2 : List Int} {f3 : Int} {f4 : Int} {f5 : Int} {α : Type} {d : Kd α} {e : Nat} {base : Nat} {ok : Nat → Prop} {v : Value} {xs : List α} (h : IsS43 w0 W g f0 f1 f2 f3 f4 f5) (ho : d.R e W base ok v xs) (ht : ∀ q, q ∈ e :: d.E → q ≠ 43) : d.R e W base (fun k => ok k ∧ k ≠ g) v xs := by
  obtain ⟨A0, c0, A1, c1, A2, c2, hb, hg, hr0, hr1, hr2⟩ := h
  exact Kd.R_types ho hb ht
theorem IsS43.own_ne {w0 W : World} {g : Nat} {f0 : List Int} {f1 : List Int} {f2 : List Int} {f3 : Int} {f4 : Int} {f5 : Int} {α : Type} {d : Kd α} {e : Nat} {base : Nat} {ok : Nat → Prop} {v : Value} {xs : List α} (h : IsS43 w0 W g f0 f1 f2 f3 f4 f5) (ho : d.R e W base ok v xs) (ht : e ≠ 43) : some g ≠ v.ownBlock := by
  obtain ⟨A0, c0, A1, c1, A2, c2, hb, hg, hr0, hr1, hr2⟩ := h
  exact Kd.R_ne ho hb ht
theorem IsS43.apartQ {w0 W : World} {g : Nat} {f0 : List Int} {f1 : List Int} {f2 : List Int} {f3 : Int} {f4 : Int} {f5 : Int} {α : Type} {d : Kd α} {e : Nat} {base : Nat} {ok : Nat → Prop} {v : Value} {xs : List α} (h : IsS43 w0 W g f0 f1 f2 f3 f4 f5) (ho : d.Q e W base ok v xs) (ht : ∀ q, q ∈ e :: d.E → q ≠ 43) : d.Q e W base (fun k => ok k ∧ k ≠ g) v xs := by
  obtain ⟨A0, c0, A1, c1, A2, c2, hb, hg, hr0, hr1, hr2⟩ := h
  exact Kd.Q_types ho hb ht
theorem IsS43.own_neQ {w0 W : World} {g : Nat} {f0 : List Int} {f1 : List Int} {f2 : List Int} {f3 : Int} {f4 : Int} {f5 : Int} {α : Type} {d : Kd α} {e : Nat} {base : Nat} {ok : Nat → Prop} {v : Value} {xs : List α} (h : IsS43 w0 W g f0 f1 f2 f3 f4 f5) (ho : d.Q e W base ok v xs) (ht : e ≠ 43) : some g ≠ v.ownBlock := by
  obtain ⟨A0, c0, A1, c1, A2, c2, hb, hg, hr0, hr1, hr2⟩ := h
  exact Kd.Q_ne ho hb ht
theorem IsS43.apartS {w0 W : World} {g : Nat} {f0 : List Int} {f1 : List Int} {f2 : List Int} {f3 : Int} {f4 : Int} {f5 : Int} {α : Type} {d : Kd α} {e : Nat} {base : Nat} {ok : Nat → Prop} {v : Value} {xs : List α} (h : IsS43 w0 W g f0 f1 f2 f3 f4 f5) (ho : d.S e W base ok v xs) (ht : ∀ q, q ∈ e :: d.E → q ≠ 43) : d.S e W base (fun k => ok k ∧ k ≠ g) v xs := by
  obtain ⟨A0, c0, A1, c1, A2, c2, hb, hg, hr0, hr1, hr2⟩ := h
  exact Kd.S_types ho hb ht
theorem IsS43.own_neS {w0 W : World} {g : Nat} {f0 : List Int} {f1 : List Int} {f2 : List Int} {f3 : Int} {f4 : Int} {f5 : Int} {α : Type} {d : Kd α} {e : Nat} {base : Nat} {ok : Nat → Prop} {v : Value} {xs : List α} (h : IsS43 w0 W g f0 f1 f2 f3 f4 f5) (ho : d.S e W base ok v xs) (ht : e ≠ 43) : some g ≠ v.ownBlock := by
  obtain ⟨A0, c0, A1, c1, A2, c2, hb, hg, hr0, hr1, hr2⟩ := h
  exact Kd.S_ne ho hb ht
theorem IsS43.lt {w0 W : World} {g : Nat} {f0 : List Int} {f1 : List Int} {f2 : List Int} {f3 : Int} {f4 : Int} {f5 : Int} (h : IsS43 w0 W g f0 f1 f2 f3 f4 f5) : g < W.heap.size := by
  obtain ⟨A0, c0, A1, c1, A2, c2, hb, hg, hr0, hr1, hr2⟩ := h
  exact blk_lt hb
theorem IsS43.ge {w0 W : World} {g : Nat} {f0 : List Int} {f1 : List Int} {f2 : List Int} {f3 : Int} {f4 : Int} {f5 : Int} (h : IsS43 w0 W g f0 f1 f2 f3 f4 f5) : w0.heap.size ≤ g := by
  obtain ⟨A0, c0, A1, c1, A2, c2, hb, hg, hr0, hr1, hr2⟩ := h
  exact hg
theorem IsS43.ne_blk {w0 W : World} {g : Nat} {f0 : List Int} {f1 : List Int} {f2 : List Int} {f3 : Int} {f4 : Int} {f5 : Int} {a : Nat} {cs : Array Value} {t : TypeId} {fr : Nat × Nat} (h : IsS43 w0 W g f0 f1 f2 f3 f4 f5) (hb2 : W.heap[a]? = some (.cells cs t fr)) (ht : t ≠ 43) : g ≠ a := by
  obtain ⟨A0, c0, A1, c1, A2, c2, hb, hg, hr0, hr1, hr2⟩ := h
  rintro rfl
  rw [hb] at hb2
  injection hb2 with hb2
  injection hb2 with _ ht2
  exact ht ht2.symm
theorem IsS43.far {w0 W : World} {g : Nat} {f0 : List Int} {f1 : List Int} {f2 : List Int} {f3 : Int} {f4 : Int} {f5 : Int} {p : Addr} (h : IsS43 w0 W g f0 f1 f2 f3 f4 f5) (hne : g ≠ p.block) (u : Value) : IsS43 w0 (W.setCell p u) g f0 f1 f2 f3 f4 f5 := by
  obtain ⟨A0, c0, A1, c1, A2, c2, hb, hg, hr0, hr1, hr2⟩ := h
  exact ⟨A0, c0, A1, c1, A2, c2, blk_far hb hne u, hg, hr0, hr1, hr2⟩
theorem cellS43_0 {W : World} {g : Nat} {A0 : Option Addr} {c0 : Nat} {A1 : Option Addr} {c1 : Nat} {A2 : Option Addr} {c2 : Nat} {f0 : List Int} {f1 : List Int} {f2 : List Int} {f3 : Int} {f4 : Int} {f5 : Int} (h : W.heap[g]? = some (.cells #[.slice A0 f0.length c0, .slice A1 f1.length c1, .slice A2 f2.length c2, .int .i64 f3, .int .i64 f4, .int .i64 f5] 43 (0, 0))) : W.cell? ⟨g, 0, none⟩ = some (.slice A0 f0.length c0) := (blk_cell h 0).trans rfl
theorem cellS43_1 {W : World} {g : Nat} {A0 : Option Addr} {c0 : Nat} {A1 : Option Addr} {c1 : Nat} {A2 : Option Addr} {c2 : Nat} {f0 : List Int} {f1 : List Int} {f2 : List Int} {f3 : Int} {f4 : Int} {f5 : Int} (h : W.heap[g]? = some (.cells #[.slice A0 f0.length c0, .slice A1 f1.length c1, .slice A2 f2.length c2, .int .i64 f3, .int .i64 f4, .int .i64 f5] 43 (0, 0))) : W.cell? ⟨g, 1, none⟩ = some (.slice A1 f1.length c1) := (blk_cell h 1).trans rfl
theorem cellS43_2 {W : World} {g : Nat} {A0 : Option Addr} {c0 : Nat} {A1 : Option Addr} {c1 : Nat} {A2 : Option Addr} {c2 : Nat} {f0 : List Int} {f1 : List Int} {f2 : List Int} {f3 : Int} {f4 : Int} {f5 : Int} (h : W.heap[g]? = some (.cells #[.slice A0 f0.length c0, .slice A1 f1.length c1, .slice A2 f2.length c2, .int .i64 f3, .int .i64 f4, .int .i64 f5] 43 (0, 0))) : W.cell? ⟨g, 2, none⟩ = some (.slice A2 f2.length c2) := (blk_cell h 2).trans rfl
theorem cellS43_3 {W : World} {g : Nat} {A0 : Option Addr} {c0 : Nat} {A1 : Option Addr} {c1 : Nat} {A2 : Option Addr} {c2 : Nat} {f0 : List Int} {f1 : List Int} {f2 : List Int} {f3 : Int} {f4 : Int} {f5 : Int} (h : W.heap[g]? = some (.cells #[.slice A0 f0.length c0, .slice A1 f1.length c1, .slice A2 f2.length c2, .int .i64 f3, .int .i64 f4, .int .i64 f5] 43 (0, 0))) : W.cell? ⟨g, 3, none⟩ = some (.int .i64 f3) := (blk_cell h 3).trans rfl
theorem IsS43.set_3 {w0 W : World} {g : Nat} {f0 : List Int} {f1 : List Int} {f2 : List Int} {f3 : Int} {f4 : Int} {f5 : Int} (h : IsS43 w0 W g f0 f1 f2 f3 f4 f5) (x : Int) : IsS43 w0 (W.setCell ⟨g, 3, none⟩ (.int .i64 x)) g f0 f1 f2 x f4 f5 := by
  obtain ⟨A0, c0, A1, c1, A2, c2, hb, hg, hr0, hr1, hr2⟩ := h
  exact ⟨A0, c0, A1, c1, A2, c2, by simpa using blk_set hb 3 (.int .i64 x), hg, hr0, hr1, hr2⟩
theorem cellS43_4 {W : World} {g : Nat} {A0 : Option Addr} {c0 : Nat} {A1 : Option Addr} {c1 : Nat} {A2 : Option Addr} {c2 : Nat} {f0 : List Int} {f1 : List Int} {f2 : List Int} {f3 : Int} {f4 : Int} {f5 : Int} (h : W.heap[g]? = some (.cells #[.slice A0 f0.length c0, .slice A1 f1.length c1, .slice A2 f2.length c2, .int .i64 f3, .int .i64 f4, .int .i64 f5] 43 (0, 0))) : W.cell? ⟨g, 4, none⟩ = some (.int .i64 f4) := (blk_cell h 4).trans rfl
theorem IsS43.set_4 {w0 W : World} {g : Nat} {f0 : List Int} {f1 : List Int} {f2 : List Int} {f3 : Int} {f4 : Int} {f5 : Int} (h : IsS43 w0 W g f0 f1 f2 f3 f4 f5) (x : Int) : IsS43 w0 (W.setCell ⟨g, 4, none⟩ (.int .i64 x)) g f0 f1 f2 f3 x f5 := by
  obtain ⟨A0, c0, A1, c1, A2, c2, hb, hg, hr0, hr1, hr2⟩ := h
  exact ⟨A0, c0, A1, c1, A2, c2, by simpa using blk_set hb 4 (.int .i64 x), hg, hr0, hr1, hr2⟩
theorem cellS43_5 {W : World} {g : Nat} {A0 : Option Addr} {c0 : Nat} {A1 : Option Addr} {c1 : Nat} {A2 : Option Addr} {c2 : Nat} {f0 : List Int} {f1 : List Int} {f2 : List Int} {f3 : Int} {f4 : Int} {f5 : Int} (h : W.heap[g]? = some (.cells #[.slice A0 f0.length c0, .slice A1 f1.length c1, .slice A2 f2.length c2, .int .i64 f3, .int .i64 f4, .int .i64 f5] 43 (0, 0))) : W.cell? ⟨g, 5, none⟩ = some (.int .i64 f5) := (blk_cell h 5).trans rfl
theorem IsS43.set_5 {w0 W : World} {g : Nat} {f0 : List Int} {f1 : List Int} {f2 : List Int} {f3 : Int} {f4 : Int} {f5 : Int} (h : IsS43 w0 W g f0 f1 f2 f3 f4 f5) (x : Int) : IsS43 w0 (W.setCell ⟨g, 5, none⟩ (.int .i64 x)) g f0 f1 f2 f3 f4 x := by
  obtain ⟨A0, c0, A1, c1, A2, c2, hb, hg, hr0, hr1, hr2⟩ := h
  exact ⟨A0, c0, A1, c1, A2, c2, by simpa using blk_set hb 5 (.int .i64 x), hg, hr0, hr1, hr2⟩
theorem IsS43.new (w0 W : World) (A0 : Option Addr) (c0 : Nat) (A1 : Option Addr) (c1 : Nat) (A2 : Option Addr) (c2 : Nat) (f0 : List Int) (f1 : List Int) (f2 : List Int) (f3 : Int) (f4 : Int) (f5 : Int) (hB : Below w0.heap.size w0 W) (hr0 : Kd.C (Kd.int .i64) w0 A0 f0.length f0) (hr1 : Kd.C (Kd.int .u8) w0 A1 f1.length f1) (hr2 : Kd.C (Kd.int .u8) w0 A2 f2.length f2) : IsS43 w0 (W.alloc (.cells #[.slice A0 f0.length c0, .slice A1 f1.length c1, .slice A2 f2.length c2, .int .i64 f3, .int .i64 f4, .int .i64 f5] 43)) W.heap.size f0 f1 f2 f3 f4 f5 := ⟨A0, c0, A1, c1, A2, c2, by simpa using heap_alloc_new W _, hB.size, hr0, hr1, hr2⟩

/-! ### gangwayref23_Feed_Now: function 16 -/
def gangwayref23_Feed_Now.f (s0_0 : List Int) (s0_1 : List Int) (s0_2 : List Int) (s0_3 : Int) (s0_4 : Int) (s0_5 : Int) : Option (Int × Int × Int × Int) := if (s0_0.length : Int) = 0 then (some (0, s0_3, s0_4, s0_5)) else (if 0 ≤ (mn s0_3 (wrap64 ((s0_0.length : Int) - 1))) then (if (mn s0_3 (wrap64 ((s0_0.length : Int) - 1))) < (s0_0.length : Int) then (some (rd s0_0 (mn s0_3 (wrap64 ((s0_0.length : Int) - 1))), s0_3, s0_4, s0_5)) else (none)) else (none))
set_option maxHeartbeats 8000000 in
set_option maxRecDepth 100000 in
theorem gangwayref23_Feed_Now.calls (g : Nat) (s0_0 : List Int) (s0_1 : List Int) (s0_2 : List Int) (s0_3 : Int) (s0_4 : Int) (s0_5 : Int) (r1 : Int) (r2 : Int) (r3 : Int) (r4 : Int) (w0 w : World) (hI : IsS43 w0 w g s0_0 s0_1 s0_2 s0_3 s0_4 s0_5) (hB : Below w0.heap.size w0 w) (h : gangwayref23_Feed_Now.f s0_0 s0_1 s0_2 s0_3 s0_4 s0_5 = some (r1, r2, r3, r4)) :
    Calls Try.prog 16 #[.pointer (some ⟨g, 0, none⟩)] w fun e w' => e = .returned (.int .i64 r1) ∧ IsS43 w0 w' g s0_0 s0_1 s0_2 r2 r3 r4 ∧ Below w0.heap.size w0 w' ∧ KeepBut w w' g none := by
  have HI0 := Aside0.mk hI
  have HK := Aside0.mk (KeepBut.refl w g none)
  have HL := Aside0.mk hB.size
  clear hI
  have HW0 := Aside0.mk hB.size
  have HB := Aside0.mk hB
  clear hB
  have H : (if (s0_0.length : Int) = 0 then (some (0, s0_3, s0_4, s0_5)) else (if 0 ≤ (mn s0_3 (wrap64 ((s0_0.length : Int) - 1))) then (if (mn s0_3 (wrap64 ((s0_0.length : Int) - 1))) < (s0_0.length : Int) then (some (rd s0_0 (mn s0_3 (wrap64 ((s0_0.length : Int) - 1))), s0_3, s0_4, s0_5)) else (none)) else (none))) = some (r1, r2, r3, r4) := h
  clear h
  by_cases c2 : (s0_0.length : Int) = 0
  · rw [if_pos c2] at H
    have c2b0 : ((s0_0.length : Int) == 0) = true := beq_iff_eq.mpr c2
    have c2b1 : ((s0_0.length : Int) != 0) = false := bne_eq_false_iff_eq.mpr c2
    clear c2
    simp only [Option.some.injEq, Prod.mk.injEq] at H
    obtain ⟨rfl, rfl, rfl, rfl⟩ := H
    obtain ⟨ASz3_0, cSz3_0, ASz3_1, cSz3_1, ASz3_2, cSz3_2, HGz3, hgz3, HSz3_0, HSz3_1, HSz3_2⟩ := HI0.out
    have hcz3_0 := cellS43_0 HGz3
    have hcz3_1 := cellS43_1 HGz3
    have hcz3_2 := cellS43_2 HGz3
    have hcz3_3 := cellS43_3 HGz3
    have hcz3_4 := cellS43_4 HGz3
    have hcz3_5 := cellS43_5 HGz3
    have hfz3_3 := blk_frozen HGz3 3
    have hfz3_4 := blk_frozen HGz3 4
    have hfz3_5 := blk_frozen HGz3 5
    clear HGz3 hgz3
    go_enter Try.func16, Try.ntmps16
    go_wp2
    repeat (go_quiet (fail); try go_wp2)
    go_ret
    exact ⟨by first | rfl | (simp [errW_none, errW_some] <;> rfl) | (simp [*, errW_none, errW_some] <;> rfl), by repeat (first | (with_reducible first | exact HI0.out | apply IsS43.alloc | apply IsS43.drewN | apply IsS43.drew | apply IsS43.set_3 | apply IsS43.set_4 | apply IsS43.set_5) | exact HI0.out), by repeat (first | (with_reducible first | exact HB.out | apply below_alloc | apply pw_below_drewN | apply below_drew1 | refine below_set ?_ (IsS43.ge HI0.out)) | exact HB.out), by repeat (first | (with_reducible first | exact HK.out | apply KeepBut.set_ | apply keep_drewN | apply keep_drew | apply keep_alloc) | exact HK.out)⟩
  · rw [if_neg c2] at H
    have c2b0 : ((s0_0.length : Int) == 0) = false := beq_eq_false_iff_ne.mpr c2
    have c2b1 : ((s0_0.length : Int) != 0) = true := bne_iff_ne.mpr c2
    have c2b2 : ¬ (s0_0 = []) := fun h_ => c2 (by rw [h_]; rfl)
    obtain ⟨ji4, hji4⟩ : ∃ j_ : Int, (mn s0_3 (wrap64 ((s0_0.length : Int) - 1))) = j_ := ⟨_, rfl⟩
    replace H : (if 0 ≤ (ji4) then (if (ji4) < (s0_0.length : Int) then (some (rd s0_0 (ji4), s0_3, s0_4, s0_5)) else (none)) else (none)) = some (r1, r2, r3, r4) := by first | (rw [hji4] at H; exact H) | (simp only [hji4] at H ⊢; exact H)
    have hji4_ : (if (wrap64 ((s0_0.length : Int) - 1)) < s0_3 then (wrap64 ((s0_0.length : Int) - 1)) else s0_3) = ji4 := hji4
    by_cases c5 : 0 ≤ (ji4)
    · rw [if_pos c5] at H
      have c5b0 : decide (0 ≤ (ji4)) = true := decide_eq_true c5
      clear c5
      by_cases c6 : (ji4) < (s0_0.length : Int)
      · rw [if_pos c6] at H
        have c6b0 : decide ((ji4) < (s0_0.length : Int)) = true := decide_eq_true c6
        clear c6
        simp only [Option.some.injEq, Prod.mk.injEq] at H
        obtain ⟨rfl, rfl, rfl, rfl⟩ := H
        obtain ⟨ASz7_0, cSz7_0, ASz7_1, cSz7_1, ASz7_2, cSz7_2, HGz7, hgz7, HSz7_0, HSz7_1, HSz7_2⟩ := HI0.out
        have hcz7_0 := cellS43_0 HGz7
        have hcz7_1 := cellS43_1 HGz7
        have hcz7_2 := cellS43_2 HGz7
        have hcz7_3 := cellS43_3 HGz7
        have hcz7_4 := cellS43_4 HGz7
        have hcz7_5 := cellS43_5 HGz7
        have hfz7_3 := blk_frozen HGz7 3
        have hfz7_4 := blk_frozen HGz7 4
        have hfz7_5 := blk_frozen HGz7 5
        clear HGz7 hgz7
        have p288 : 0 ≤ ((ji4) : Int) := of_decide_eq_true (by first | (with_reducible assumption) | assumption)
        have q288 : (ji4) < (s0_0.length : Int) := of_decide_eq_true (by first | (with_reducible assumption) | assumption)
        obtain ⟨ad288, e288, hx288_0⟩ := Kd.at_int HSz7_0 (ji4) p288 q288
        cases e288
        replace hx288_0 := pw_cell_below HB.out hx288_0
        replace p288 := eq_true p288
        replace q288 := eq_true q288
        go_enter Try.func16, Try.ntmps16
        go_wp2
        repeat (go_quiet (fail); try go_wp2)
        go_ret
        exact ⟨by first | rfl | (simp [errW_none, errW_some] <;> rfl) | (simp only [← hji4]; first | rfl | (simp [errW_none, errW_some] <;> rfl)) | (simp [*, errW_none, errW_some] <;> rfl), by repeat (first | (with_reducible first | exact HI0.out | apply IsS43.alloc | apply IsS43.drewN | apply IsS43.drew | apply IsS43.set_3 | apply IsS43.set_4 | apply IsS43.set_5) | exact HI0.out), by repeat (first | (with_reducible first | exact HB.out | apply below_alloc | apply pw_below_drewN | apply below_drew1 | refine below_set ?_ (IsS43.ge HI0.out)) | exact HB.out), by repeat (first | (with_reducible first | exact HK.out | apply KeepBut.set_ | apply keep_drewN | apply keep_drew | apply keep_alloc) | exact HK.out)⟩
      · rw [if_neg c6] at H
        exact absurd H (by simp)
    · rw [if_neg c5] at H
      exact absurd H (by simp)

-- NOT PRINTED: function 17 (gangwayref23_Feed_Tick)

-- NOT PRINTED: function 18 (gangwayref23_Feed_Random)

/-! ### feed_good: function 30 -/
def feed_good.f (a0 : Int) : Option (Bool) := if a0 ≥ 0 then (some (decide (a0 ≤ 1048576))) else (some false)
set_option maxHeartbeats 8000000 in
set_option maxRecDepth 100000 in
theorem feed_good.calls (a0 : Int) (r : Bool) (w : World) (h : feed_good.f a0 = some r) :
    Calls Try.prog 30 #[.int .i64 a0] w fun e w' => e = .returned (.bool r) ∧ Drawn0 w w' := by
  have H : (if a0 ≥ 0 then (some (decide (a0 ≤ 1048576))) else (some false)) = some r := h
  clear h
  by_cases c2 : a0 ≥ 0
  · rw [if_pos c2] at H
    have c2b0 : decide (0 ≤ a0) = true := decide_eq_true c2
    clear c2
    obtain rfl := Option.some.inj H
    go_enter Try.func30, Try.ntmps30
    go_wp2
    go_ret
    exact ⟨by first | rfl | (simp; done) | (simp [*]; done), by repeat (first | exact Drawn0.refl _ | apply Drawn0.step)⟩
  · rw [if_neg c2] at H
    have c2b0 : decide (0 ≤ a0) = false := decide_eq_false c2
    clear c2
    obtain rfl := Option.some.inj H
    go_enter Try.func30, Try.ntmps30
    go_wp2
    go_ret
    exact ⟨by first | rfl | (simp; done) | (simp [*]; done), by repeat (first | exact Drawn0.refl _ | apply Drawn0.step)⟩

-- NOT PRINTED: function 31 (feed_next)


/-! ### feed_Feed_Random: function 19 (by hand) -/
def feed_Feed_Random.f (l0_0 : List Int) (l0_1 : List Int) (l0_2 : List Int) (a1 : Int) : Option (List Int × Int × List Int × List Int × List Int) :=
  if 0 ≤ a1 ∧ a1 ≤ 1048576 then some (l0_1.take a1.toNat ++ List.replicate (a1.toNat - l0_1.length) 0, 0, l0_0, l0_1.drop (min a1.toNat l0_1.length), l0_2) else some ([], 100, l0_0, l0_1, l0_2)
set_option maxHeartbeats 8000000 in
set_option maxRecDepth 100000 in
theorem feed_Feed_Random.next_ (j g : Nat) (n : Int) (A : Option Addr) (l : List Int) (c : Nat) (cs : Array Value) (base : Nat) (ok : Nat → Prop) (w : World) (hg : w.heap[g]? = some (.cells cs 55 (0, 0))) (hj : cs[j]? = some (.slice A l.length c)) (ho : Kd.Q (Kd.int .u8) 5 w base ok (.slice A l.length c) l) (h0 : 0 ≤ n) (h1 : n < 140737488355328) :
    Calls Try.prog 31 #[.pointer (some ⟨g, j, none⟩), .int .i64 n] w fun e w' => ∃ (v v1 : Value) (w1 : World), e = .returned v ∧ Below w.heap.size w w1 ∧ Kd.R (Kd.int .u8) 5 w1 w.heap.size (fun _ => True) v (l.take n.toNat) ∧ Kd.Q (Kd.int .u8) 5 w1 base ok v1 (l.drop (min n.toNat l.length)) ∧ v1.ownBlock = (.slice A l.length c : Value).ownBlock ∧ w' = w1.setCell ⟨g, j, none⟩ v1 := by
  obtain ⟨m, hm⟩ : ∃ m : Int, (if (l.length : Int) < n then (l.length : Int) else n) = m := ⟨_, rfl⟩
  have hm0 : 0 ≤ m := by rw [← hm]; split <;> omega
  have hm1 : m ≤ (l.length : Int) := by rw [← hm]; split <;> omega
  have hmn : m.toNat = min n.toNat l.length := by rw [← hm]; split <;> omega
  have hc0 : w.cell? ⟨g, j, none⟩ = some (.slice A l.length c) := (blk_cell hg j).trans hj
  have hf0 := blk_frozen hg j
  obtain ⟨i5, hi5, _, hsz5, _⟩ := info_parts info5
  have hq := Kd.Q_reads' ho
  have hcut1 := cut_to (P := Try.prog) 23 5 .i64 Try.underlying23 hi5 A l.length c m hm0 hm1 hq.2.1
  have hcut2 := cut_from (P := Try.prog) 23 5 .i64 Try.underlying23 hi5 1 hsz5 A l.length c m hm0 hm1
  obtain ⟨y, hy⟩ : ∃ y : List Int, y = l.take m.toNat := ⟨_, rfl⟩
  have hyl : y.length = m.toNat := by rw [hy, List.length_take]; omega
  have hyt : y = l.take n.toNat := by
    rw [hy, hmn]
    rcases Nat.le_total n.toNat l.length with h | h
    · rw [Nat.min_eq_left h]
    · rw [Nat.min_eq_right h, List.take_of_length_le (Nat.le_refl _), List.take_of_length_le h]
  rw [← hyl] at hcut1
  have hC : Kd.C (Kd.int .u8) w A y.length y := by rw [hy]; exact Kd.C_take hq.2.2 (by omega)
  have hyc : y.length ≤ c := by omega
  have hcl : slices_Clone_byte_byte.f y = some y := by
    unfold slices_Clone_byte_byte.f
    simp only [Option.bind_some, List.length_nil, Nat.zero_add, List.nil_append]
    exact if_pos (by omega)
  have hd := Kd.Q_drop (k := m.toNat) ho (by omega)
  obtain ⟨A1, hA1⟩ : ∃ A1, A1 = (if c = m.toNat then A else (A : Option Addr).map (·.add (m.toNat * 1))) := ⟨_, rfl⟩
  obtain ⟨n1, hn1⟩ : ∃ n1, n1 = l.length - m.toNat := ⟨_, rfl⟩
  obtain ⟨c1, hc1⟩ : ∃ c1, c1 = c - m.toNat := ⟨_, rfl⟩
  rw [← hA1, ← hn1, ← hc1] at hcut2
  have hd1 : Kd.Q (Kd.int .u8) 5 w base ok (.slice A1 n1 c1) (l.drop m.toNat) := by rw [hA1, hn1, hc1]; exact hd
  have hob : (.slice A1 n1 c1 : Value).ownBlock = (.slice A l.length c : Value).ownBlock := by
    rw [hA1]
    split
    · cases A <;> rfl
    · cases A with
      | none => rfl
      | some z => simp [Value.ownBlock, add_block]
  have HC := Aside0.mk hC
  have HY := Aside0.mk hyc
  have HL := Aside0.mk hcl
  have HG := Aside0.mk hg
  have HD := Aside0.mk hd1
  have HT := Aside0.mk hyt
  have HB := Aside0.mk hob
  have HJ := Aside0.mk hj
  have HM := Aside0.mk hmn
  clear hyl hC hyc hcl hg hd1 hd hyt hob hA1 hn1 hc1 hq hy hj hmn hi5 hsz5 ho
  go_enter Try.func31, Try.ntmps31
  go_wp2_with (first
    | ((with_reducible refine gate_callee (f := 26) rfl ?_); refine goesL_ (some 17) rfl rfl Try.func26 (by kernel_rfl) rfl #[.slice A y.length c] rfl (by (try simp only [List.map_toArray, List.map_cons, List.map_nil]); first | done | rfl | (simp only [List.length_drop, List.length_take]; rfl)) ?_
       (with_reducible refine (slices_Clone_byte_byte.calls A c y y _ HC.out HY.out HL.out).mono ?_)
       rintro e w1 ⟨v, rfl, hr, hb⟩
       refine ⟨_, rfl, ?_⟩
       have hg1 := blk_below (o := .cells cs 55 (0, 0)) HG.out hb
       have hcz1 : w1.cell? ⟨g, j, none⟩ = some (.slice A l.length c) := (blk_cell hg1 j).trans HJ.out
       have hf1 := blk_frozen hg1 j
       have HR := Aside0.mk hr
       have HBL := Aside0.mk hb
       have HD1 := Aside0.mk (Kd.Q_below HD.out hb)
       clear hr hb hg1))

  go_ret
  exact ⟨_, .slice A1 n1 c1, _, rfl, HBL.out, by rw [← HT.out]; exact HR.out, by rw [← HM.out]; exact HD1.out, HB.out, rfl⟩
theorem feed_Feed_Random.tight2_ {α : Type} {d : Kd α} {e base : Nat} {ok : Nat → Prop} {W : World} {v : Value} {xs : List α} (h : d.Q e W base ok v xs) (hE : d.E = [] := by rfl) : d.Q e W base (fun k => some k = v.ownBlock ∧ ok k) v xs := Kd.Q_mono (Kd.Q_tight hE h) (fun k hk => ⟨hk, h.1 k hk.symm⟩)
set_option maxHeartbeats 4000000 in
theorem feed_Feed_Random.nextf_ (g : Nat) (P0_0_ : Nat → Prop) (u9000_ : Value) (l0_0 : List Int) (P0_1_ : Nat → Prop) (u9001_ : Value) (l0_1 : List Int) (P0_2_ : Nat → Prop) (u9002_ : Value) (l0_2 : List Int) (a1 : Int) (w0 w : World) (hI : IsS55 w0 w g u9000_ u9001_ u9002_) (hB : Below w0.heap.size w0 w) (ho0_0 : Kd.Q (Kd.int .i64) 2 w w0.heap.size P0_0_ u9000_ l0_0) (ho0_1 : Kd.Q (Kd.int .u8) 5 w w0.heap.size P0_1_ u9001_ l0_1) (hp0_1_0_2 : ∀ k_, P0_1_ k_ → ¬ P0_2_ k_) (ho0_2 : Kd.Q (Kd.int .u8) 5 w w0.heap.size P0_2_ u9002_ l0_2) (hp0_2_0_1 : ∀ k_, P0_2_ k_ → ¬ P0_1_ k_) (h0 : 0 ≤ a1) (h1 : a1 < 140737488355328) :
    Calls Try.prog 31 #[.pointer (some ⟨g, 1, none⟩), .int .i64 a1] w fun e w' => ∃ v0_ v2_ v3_ v4_ : Value, e = .returned (v0_) ∧ Kd.R (Kd.int .u8) 5 w' w0.heap.size (fun k_ => ((P0_0_ k_ ∨ P0_1_ k_ ∨ P0_2_ k_) ∨ w.heap.size ≤ k_) ∧ some k_ ≠ (v3_ : Value).ownBlock ∧ some k_ ≠ (v4_ : Value).ownBlock) v0_ (l0_1.take a1.toNat) ∧ Kd.Q (Kd.int .i64) 2 w' w0.heap.size (fun k_ => ((P0_0_ k_ ∨ P0_1_ k_ ∨ P0_2_ k_) ∨ w.heap.size ≤ k_)) v2_ l0_0 ∧ Kd.Q (Kd.int .u8) 5 w' w0.heap.size (fun k_ => ((P0_0_ k_ ∨ P0_1_ k_ ∨ P0_2_ k_) ∨ w.heap.size ≤ k_) ∧ some k_ ≠ (v0_ : Value).ownBlock ∧ some k_ ≠ (v4_ : Value).ownBlock) v3_ (l0_1.drop (min a1.toNat l0_1.length)) ∧ Kd.Q (Kd.int .u8) 5 w' w0.heap.size (fun k_ => ((P0_0_ k_ ∨ P0_1_ k_ ∨ P0_2_ k_) ∨ w.heap.size ≤ k_) ∧ some k_ ≠ (v0_ : Value).ownBlock ∧ some k_ ≠ (v3_ : Value).ownBlock) v4_ l0_2 ∧ IsS55 w0 w' g v2_ v3_ v4_ ∧ Below w0.heap.size w0 w' ∧ Kept w w' (fun k_ => (P0_0_ k_ ∨ P0_1_ k_ ∨ P0_2_ k_) ∨ k_ = g) := by
  obtain ⟨A, c, rfl, _⟩ := Kd.Q_slice ho0_1
  have hlt0 := Kd.Q_lt ho0_0
  have hlt1 := Kd.Q_lt ho0_1
  have hlt2 := Kd.Q_lt ho0_2
  have hgl := hI.lt
  refine (feed_Feed_Random.next_ 1 g a1 A l0_1 c _ w0.heap.size P0_1_ w hI.1 rfl ho0_1 h0 h1).mono ?_
  rintro e w' ⟨v, v1, w1, rfl, hb, hr, hq, hob, rfl⟩
  have hI1 := hI.below hb
  have hbase := Kd.R_base hr
  have q0 := Kd.Q_below ho0_0 hb
  have q1 := hq
  have q2 := Kd.Q_below ho0_2 hb
  have hne : ∀ (x : Value), (∀ k, x.ownBlock = some k → k < w.heap.size) → ∀ k, x.ownBlock = some k → some k ≠ v.ownBlock := fun x hx k hk e => by
    have := hbase k e.symm
    have := hx k hk
    omega
  have lt1 : ∀ k, (v1 : Value).ownBlock = some k → k < w.heap.size := by rw [hob]; exact hlt1
  have lt2 : ∀ k, (u9002_ : Value).ownBlock = some k → k < w.heap.size := hlt2
  have t1 := feed_Feed_Random.tight2_ q1
  have t2 := feed_Feed_Random.tight2_ q2
  refine ⟨v, u9000_, v1, u9002_, rfl, ?_, ?_, ?_, ?_, ?_, ?_, ?_⟩
  · refine Kd.R_lower (Kd.R_mono (Kd.R_far (p := ⟨g, 1, none⟩) (Kd.R_mono (ok' := fun k => w.heap.size ≤ k) (Kd.R_bound hr) (fun k hk => hk.2.1)) (fun k hk e => by have : k = g := e; omega) v1) (fun k hk => ⟨.inr hk, fun e => ?_, fun e => ?_⟩)) hB.size
    · have := lt1 k e.symm; omega
    · have := lt2 k e.symm; omega
  · exact Kd.Q_mono (Kd.Q_far (p := ⟨g, 1, none⟩) (IsS55.apartQ hI1 q0 (by decide)) (fun _ hk => hk.2) v1) (fun k hk => .inl (.inl hk.1))
  · exact Kd.Q_mono (Kd.Q_far (p := ⟨g, 1, none⟩) (IsS55.apartQ hI1 t1 (by decide)) (fun _ hk => hk.2) v1) (fun k hk => ⟨.inl (.inr (.inl hk.1.2)), hne _ lt1 k hk.1.1.symm, fun e => hp0_1_0_2 k hk.1.2 (q2.1 k e.symm)⟩)
  · exact Kd.Q_mono (Kd.Q_far (p := ⟨g, 1, none⟩) (IsS55.apartQ hI1 t2 (by decide)) (fun _ hk => hk.2) v1) (fun k hk => ⟨.inl (.inr (.inr hk.1.2)), hne _ lt2 k hk.1.1.symm, fun e => hp0_2_0_1 k hk.1.2 (q1.1 k e.symm)⟩)
  · exact IsS55.set_1 hI1 v1
  · exact below_set (below_step hB hb) hI1.ge
  · exact Kept.setCell (Kept.of_below hb _) (.inl (.inr rfl)) v1
set_option maxHeartbeats 8000000 in
set_option maxRecDepth 100000 in
theorem feed_Feed_Random.calls (g : Nat) (P0_0_ : Nat → Prop) (u9000_ : Value) (l0_0 : List Int) (P0_1_ : Nat → Prop) (u9001_ : Value) (l0_1 : List Int) (P0_2_ : Nat → Prop) (u9002_ : Value) (l0_2 : List Int) (a1 : Int) (r1 : List Int) (r2 : Int) (r3 : List Int) (r4 : List Int) (r5 : List Int) (w0 w : World) (hI : IsS55 w0 w g u9000_ u9001_ u9002_) (hB : Below w0.heap.size w0 w) (ho0_0 : Kd.Q (Kd.int .i64) 2 w w0.heap.size P0_0_ u9000_ l0_0) (ho0_1 : Kd.Q (Kd.int .u8) 5 w w0.heap.size P0_1_ u9001_ l0_1) (hp0_1_0_2 : ∀ k_, P0_1_ k_ → ¬ P0_2_ k_) (ho0_2 : Kd.Q (Kd.int .u8) 5 w w0.heap.size P0_2_ u9002_ l0_2) (hp0_2_0_1 : ∀ k_, P0_2_ k_ → ¬ P0_1_ k_) (h : feed_Feed_Random.f l0_0 l0_1 l0_2 a1 = some (r1, r2, r3, r4, r5)) :
    Calls Try.prog 19 #[.pointer (some ⟨g, 0, none⟩), .int .i64 a1] w fun e w' => ∃ v0_ v2_ v3_ v4_ : Value, e = .returned (.tuple #[v0_, .int .i64 r2]) ∧ Kd.R (Kd.int .u8) 5 w' w0.heap.size (fun k_ => ((P0_0_ k_ ∨ P0_1_ k_ ∨ P0_2_ k_) ∨ w.heap.size ≤ k_) ∧ some k_ ≠ (v3_ : Value).ownBlock ∧ some k_ ≠ (v4_ : Value).ownBlock) v0_ r1 ∧ Kd.Q (Kd.int .i64) 2 w' w0.heap.size (fun k_ => ((P0_0_ k_ ∨ P0_1_ k_ ∨ P0_2_ k_) ∨ w.heap.size ≤ k_)) v2_ r3 ∧ Kd.Q (Kd.int .u8) 5 w' w0.heap.size (fun k_ => ((P0_0_ k_ ∨ P0_1_ k_ ∨ P0_2_ k_) ∨ w.heap.size ≤ k_) ∧ some k_ ≠ (v0_ : Value).ownBlock ∧ some k_ ≠ (v4_ : Value).ownBlock) v3_ r4 ∧ Kd.Q (Kd.int .u8) 5 w' w0.heap.size (fun k_ => ((P0_0_ k_ ∨ P0_1_ k_ ∨ P0_2_ k_) ∨ w.heap.size ≤ k_) ∧ some k_ ≠ (v0_ : Value).ownBlock ∧ some k_ ≠ (v3_ : Value).ownBlock) v4_ r5 ∧ IsS55 w0 w' g v2_ v3_ v4_ ∧ Below w0.heap.size w0 w' ∧ Kept w w' (fun k_ => (P0_0_ k_ ∨ P0_1_ k_ ∨ P0_2_ k_) ∨ k_ = g) := by
  by_cases hc : 0 ≤ a1 ∧ a1 ≤ 1048576
  · simp only [feed_Feed_Random.f, if_pos hc, Option.some.injEq, Prod.mk.injEq] at h
    obtain ⟨rfl, rfl, rfl, rfl, rfl⟩ := h
    have hgd : feed_good.f a1 = some true := by
      unfold feed_good.f
      rw [if_pos hc.1]
      congr 1
      exact decide_eq_true hc.2
    have HGd := Aside0.mk hgd
    have HC := Aside0.mk (show 0 ≤ a1 ∧ a1 ≤ 1048576 from hc)
    have hlt0 := Kd.Q_lt ho0_0
    have hlt1 := Kd.Q_lt ho0_1
    have hlt2 := Kd.Q_lt ho0_2
    have hgl := hI.lt
    have hszB := hB.size
    have L0 := Aside0.mk hlt0
    have L1 := Aside0.mk hlt1
    have L2 := Aside0.mk hlt2
    have LG := Aside0.mk hgl
    have LB := Aside0.mk hszB
    have HN := Aside0.mk (fun W1 (hI1 : IsS55 w0 W1 g u9000_ u9001_ u9002_) (hB1 : Below w0.heap.size w0 W1) (h0 : Kd.Q (Kd.int .i64) 2 W1 w0.heap.size P0_0_ u9000_ l0_0) (h1 : Kd.Q (Kd.int .u8) 5 W1 w0.heap.size P0_1_ u9001_ l0_1) (h2 : Kd.Q (Kd.int .u8) 5 W1 w0.heap.size P0_2_ u9002_ l0_2) => feed_Feed_Random.nextf_ g (fun k => some k = u9000_.ownBlock) u9000_ l0_0 (fun k => some k = u9001_.ownBlock) u9001_ l0_1 (fun k => some k = u9002_.ownBlock) u9002_ l0_2 a1 w0 W1 hI1 hB1 (Kd.Q_tight rfl h0) (Kd.Q_tight rfl h1) (fun k hk hk2 => hp0_1_0_2 k (h1.1 k hk.symm) (h2.1 k hk2.symm)) (Kd.Q_tight rfl h2) (fun k hk hk2 => hp0_2_0_1 k (h2.1 k hk.symm) (h1.1 k hk2.symm)) hc.1 (by omega))
    have X0 := Aside0.mk ho0_0
    have X1 := Aside0.mk ho0_1
    have X2 := Aside0.mk ho0_2
    have HI := Aside0.mk hI
    have HB := Aside0.mk hB
    have HP := Aside0.mk hp0_1_0_2
    clear hI hB ho0_0 ho0_1 ho0_2 hp0_1_0_2 hp0_2_0_1 hgd hc hlt0 hlt1 hlt2 hgl hszB
    go_enter Try.func19, Try.ntmps19
    go_wp2_with (first
      | ((with_reducible refine gate_callee (f := 30) rfl ?_); refine goesL_ (some 8) rfl rfl Try.func30 (by kernel_rfl) rfl #[.int .i64 a1] rfl (by (try simp only [List.map_toArray, List.map_cons, List.map_nil]); first | done | rfl | (simp only [List.length_drop, List.length_take]; rfl)) ?_
         (with_reducible refine (feed_good.calls a1 true _ HGd.out).mono ?_)
         rintro e w1 ⟨rfl, ⟨nd, rfl⟩⟩
         refine ⟨_, rfl, ?_⟩
         have HID := Aside0.mk (show IsS55 w0 (w.drewN nd) g u9000_ u9001_ u9002_ from HI.out)
         have HBD := Aside0.mk (show Below w0.heap.size w0 (w.drewN nd) from pw_below_drewN HB.out nd)
         have Z0 := Aside0.mk (Kd.Q_drewN X0.out nd)
         have Z1 := Aside0.mk (Kd.Q_drewN X1.out nd)
         have Z2 := Aside0.mk (Kd.Q_drewN X2.out nd)
         have HKD := Aside0.mk (Kept.drewN (Kept.refl w (fun k => some k = u9000_.ownBlock ∨ some k = u9001_.ownBlock ∨ some k = u9002_.ownBlock ∨ k = g)) nd)
         have hwd : (w.drewN nd).heap.size = w.heap.size := rfl
         have HWD := Aside0.mk hwd
         clear hwd
         generalize w.drewN nd = wd at *)
      | ((with_reducible refine gate_dst (N := 11) rfl ?_); refine Kd.R_make (Kd.int .u8) _ 5 rfl (N := 11) rfl 23 _ _ rfl a1 rfl rfl Try.underlying23 (.int .u8 0) 1 info5 rfl (by decide) (by omega) 0 (ok := fun _ => True) (okp := fun _ => True) rfl (fun _ hk => hk) trivial HC.out.1 (by have := HC.out; omega) (Below.refl _ _) (Nat.le_refl _) ?_
         intro vb w1 hob hb hg_ hnew_
         clear hg_ hnew_
         have HIM := Aside0.mk (IsS55.below HID.out hb)
         have HBM := Aside0.mk (below_step HBD.out hb)
         have M0 := Aside0.mk (Kd.Q_below Z0.out hb)
         have M1 := Aside0.mk (Kd.Q_below Z1.out hb)
         have M2 := Aside0.mk (Kd.Q_below Z2.out hb)
         have HKM := Aside0.mk (Kept.below HKD.out hb)
         have HOB := Aside0.mk hob
         have HBS := Aside0.mk hb.size
         clear hob hb)
      | ((with_reducible refine gate_callee (f := 31) rfl ?_); refine goesL_ (some 17) rfl rfl Try.func31 (by kernel_rfl) rfl #[.pointer (some ⟨g, 1, none⟩), .int .i64 a1] rfl (by (try simp only [List.map_toArray, List.map_cons, List.map_nil]); first | done | rfl | (simp only [List.length_drop, List.length_take]; rfl)) ?_
         (with_reducible refine (HN.out _ HIM.out HBM.out M0.out M1.out M2.out).mono ?_)
         rintro e w2 ⟨v0, v2, v3, v4, rfl, hr, hcq, hx, hy, hi, hb, hk⟩
         refine ⟨_, rfl, ?_⟩
         obtain ⟨y, hy_⟩ : ∃ y : List Int, y = l0_1.take a1.toNat := ⟨_, rfl⟩
         rw [← hy_] at hr
         obtain ⟨Av, cv, hev⟩ := Kd.R_slice hr
         subst hev
         have YE := Aside0.mk hy_
         have Y := Aside0.mk (And.intro hr (And.intro hcq (And.intro hx (And.intro hy (And.intro hi (And.intro hb hk))))))
         have HOK := Aside0.mk (show Kd.R (Kd.int .u8) 5 _ wd.heap.size (fun k => w.heap.size ≤ k) vb (List.replicate a1.toNat 0) from Kd.R_kept (Kd.R_mono (ok' := fun k => w.heap.size ≤ k) (Kd.R_bound HOB.out) (fun k hk => HWD.out ▸ hk.2.1)) hk (fun k hk hS => by
           rcases hS with (e | e | e) | e
           · have := L0.out k e.symm; omega
           · have := L1.out k e.symm; omega
           · have := L2.out k e.symm; omega
           · have := LG.out; omega))
         have HOC := Aside0.mk (Kd.R_lower HOK.out (by rw [HWD.out]; exact LB.out))
         clear hr hcq hx hy hi hb hk hy_)
      | ((with_reducible refine gate_builtin (b := .copy) (xs := #[.tmp 12, .tmp 17]) rfl ?_)
         refine Kd.R_copy (0 : Int) (w0 := w0) w0.heap.size rfl (.tmp 12) (.tmp 17) 23 23 5 rfl Try.underlying23 (by kernel_rfl) vb (List.replicate a1.toNat 0) y Av y.length cv (fun k => w.heap.size ≤ k) rfl rfl HOC.out (Kd.R_reads' Y.out.1).2.2 Y.out.2.2.2.2.2.1 (below_size Y.out.2.2.2.2.2.1) ?_
         intro w3 ho3 hb3 hg3))
    go_ret2
    obtain ⟨yr, yc, yx, yy, yi, yb, yk⟩ := Y.out
    have e1 : y.take (min y.length (List.replicate a1.toNat (0 : Int)).length) ++ (List.replicate a1.toNat (0 : Int)).drop (min y.length (List.replicate a1.toNat (0 : Int)).length) = l0_1.take a1.toNat ++ List.replicate (a1.toNat - l0_1.length) 0 := by
      have hl : y.length = min a1.toNat l0_1.length := by rw [YE.out, List.length_take]
      rw [List.length_replicate, Nat.min_eq_left (by omega), List.take_of_length_le (Nat.le_refl _), List.drop_replicate, ← YE.out]
      congr 2
      omega
    rw [e1] at ho3
    have vlt := Kd.R_lt HOB.out
    have vge : ∀ k, vb.ownBlock = some k → w.heap.size ≤ k := fun k hk => HOK.out.1 k hk
    have old : ∀ k, (some k = u9000_.ownBlock ∨ some k = u9001_.ownBlock ∨ some k = u9002_.ownBlock) → k < w.heap.size := fun k hS => by
      rcases hS with e | e | e
      · exact L0.out k e.symm
      · exact L1.out k e.symm
      · exact L2.out k e.symm
    have mine : ∀ k, ((some k = u9000_.ownBlock ∨ some k = u9001_.ownBlock ∨ some k = u9002_.ownBlock) ∨ w1.heap.size ≤ k) → ((P0_0_ k ∨ P0_1_ k ∨ P0_2_ k) ∨ w.heap.size ≤ k) := fun k hS => by
      rcases hS with (e | e | e) | e
      · exact .inl (.inl (X0.out.1 k e.symm))
      · exact .inl (.inr (.inl (X1.out.1 k e.symm)))
      · exact .inl (.inr (.inr (X2.out.1 k e.symm)))
      · have := HBS.out
        have := HWD.out
        exact .inr (by omega)
    have far : ∀ k, ((some k = u9000_.ownBlock ∨ some k = u9001_.ownBlock ∨ some k = u9002_.ownBlock) ∨ w1.heap.size ≤ k) → vb.ownBlock = some k → False := fun k hS hv => by
      have h1 := vlt k hv
      have h2 := vge k hv
      rcases hS with e | e
      · have := old k e
        omega
      · omega
    refine ⟨vb, v2, v3, v4, rfl, ?_, ?_, ?_, ?_, ?_, hb3, ?_⟩
    · exact Kd.R_mono (Kd.R_tight rfl ho3) (fun k hk => ⟨.inr (vge k hk.symm), fun e => far k (yx.1 k e.symm).1 hk.symm, fun e => far k (yy.1 k e.symm).1 hk.symm⟩)
    · exact Kd.Q_mono (Kd.Q_grown2 yc rfl hg3 (fun k hv e => far k (yc.1 k e.symm) hv)) (fun k hk => mine k hk)
    · exact Kd.Q_mono (Kd.Q_grown2 yx rfl hg3 (fun k hv e => far k (yx.1 k e.symm).1 hv)) (fun k hk => ⟨mine k hk.1, fun e => far k hk.1 e.symm, hk.2.2⟩)
    · exact Kd.Q_mono (Kd.Q_grown2 yy rfl hg3 (fun k hv e => far k (yy.1 k e.symm).1 hv)) (fun k hk => ⟨mine k hk.1, fun e => far k hk.1 e.symm, hk.2.2⟩)
    · exact yi.grown hg3 (fun e => by have := vge g e.symm; have := LG.out; omega)
    · have k1 : Kept w w1 (fun k_ => (P0_0_ k_ ∨ P0_1_ k_ ∨ P0_2_ k_) ∨ k_ = g) := Kept.mono HKM.out (fun k hS => by
        rcases hS with e | e | e | e
        · exact .inl (.inl (X0.out.1 k e.symm))
        · exact .inl (.inr (.inl (X1.out.1 k e.symm)))
        · exact .inl (.inr (.inr (X2.out.1 k e.symm)))
        · exact .inr e)
      refine Kept.of_grown hg3 (Kept.then_ k1 yk (fun k hS => .inl ?_)) (fun k hv => .inr (vge k hv))
      rcases hS with (e | e | e) | e
      · exact .inl (.inl (X0.out.1 k e.symm))
      · exact .inl (.inr (.inl (X1.out.1 k e.symm)))
      · exact .inl (.inr (.inr (X2.out.1 k e.symm)))
      · exact .inr e
  · simp only [feed_Feed_Random.f, if_neg hc, Option.some.injEq, Prod.mk.injEq] at h
    obtain ⟨rfl, rfl, rfl, rfl, rfl⟩ := h
    have hgd : feed_good.f a1 = some false := by
      unfold feed_good.f
      by_cases h1 : a1 ≥ 0
      · rw [if_pos h1]
        congr 1
        exact decide_eq_false (by omega)
      · rw [if_neg h1]
    have HGd := Aside0.mk hgd
    have hx0 : Kd.Q (Kd.int .i64) 2 w w0.heap.size (fun k_ => ((P0_0_ k_ ∨ P0_1_ k_ ∨ P0_2_ k_) ∨ w.heap.size ≤ k_)) u9000_ l0_0 := Kd.Q_mono ho0_0 (fun k hk => .inl (.inl hk))
    have hx1 : Kd.Q (Kd.int .u8) 5 w w0.heap.size (fun k_ => ((P0_0_ k_ ∨ P0_1_ k_ ∨ P0_2_ k_) ∨ w.heap.size ≤ k_) ∧ some k_ ≠ (Value.slice none 0 0).ownBlock ∧ some k_ ≠ (u9002_ : Value).ownBlock) u9001_ l0_1 := Kd.Q_mono ho0_1 (fun k hk => ⟨.inl (.inr (.inl hk)), by simp [Value.ownBlock], fun e => hp0_1_0_2 k hk (ho0_2.1 k e.symm)⟩)
    have hx2 : Kd.Q (Kd.int .u8) 5 w w0.heap.size (fun k_ => ((P0_0_ k_ ∨ P0_1_ k_ ∨ P0_2_ k_) ∨ w.heap.size ≤ k_) ∧ some k_ ≠ (Value.slice none 0 0).ownBlock ∧ some k_ ≠ (u9001_ : Value).ownBlock) u9002_ l0_2 := Kd.Q_mono ho0_2 (fun k hk => ⟨.inl (.inr (.inr hk)), by simp [Value.ownBlock], fun e => hp0_2_0_1 k hk (ho0_1.1 k e.symm)⟩)
    have X0 := Aside0.mk hx0
    have X1 := Aside0.mk hx1
    have X2 := Aside0.mk hx2
    have HI := Aside0.mk hI
    have HB := Aside0.mk hB
    clear hx0 hx1 hx2 hI hB ho0_0 ho0_1 ho0_2 hp0_1_0_2 hp0_2_0_1 hgd hc
    go_enter Try.func19, Try.ntmps19
    go_wp2_with (first
      | ((with_reducible refine gate_callee (f := 30) rfl ?_); refine goesL_ (some 8) rfl rfl Try.func30 (by kernel_rfl) rfl #[.int .i64 a1] rfl (by (try simp only [List.map_toArray, List.map_cons, List.map_nil]); first | done | rfl | (simp only [List.length_drop, List.length_take]; rfl)) ?_
         (with_reducible refine (feed_good.calls a1 false _ HGd.out).mono ?_)
         rintro e w1 ⟨rfl, ⟨nd, rfl⟩⟩
         refine ⟨_, rfl, ?_⟩))
    go_ret2
    exact ⟨_, _, _, _, rfl, Kd.R_nil _ _ _ _ _, by (with_reducible repeat (first | apply Kd.Q_alloc | apply Kd.Q_drewN | apply Kd.Q_drew)); exact X0.out, by (with_reducible repeat (first | apply Kd.Q_alloc | apply Kd.Q_drewN | apply Kd.Q_drew)); exact X1.out, by (with_reducible repeat (first | apply Kd.Q_alloc | apply Kd.Q_drewN | apply Kd.Q_drew)); exact X2.out, by repeat (first | (with_reducible first | exact HI.out | apply IsS55.alloc | apply IsS55.drewN | apply IsS55.drew) | exact HI.out), by repeat (first | (with_reducible first | exact HB.out | apply below_alloc | apply pw_below_drewN | apply below_drew1) | exact HB.out), by repeat (first | (with_reducible first | exact Kept.refl _ _ | apply Kept.alloc | apply Kept.drewN | apply Kept.drew) | exact Kept.refl _ _)⟩


/-! ### gangwayref0_EqBytes: function 20 -/
def gangwayref0_EqBytes.l0 : Nat → List Int → List Int → Int → Option (Bool)
  | 0, _, _, _ => none
  | k + 1, x0, x1, x5 => if x5 < (x0.length : Int) then (if 0 ≤ x5 then (if x5 < (x1.length : Int) then (if (rd x0 x5) = (rd x1 x5) then (gangwayref0_EqBytes.l0 k x0 x1 (wrap64 (x5 + 1))) else (some false)) else (none)) else (none)) else (some true)
def gangwayref0_EqBytes.f (k : Nat) (l0 : List Int) (l1 : List Int) : Option (Bool) := if (l0.length : Int) = (l1.length : Int) then (gangwayref0_EqBytes.l0 k l0 l1 0) else (some false)
theorem gangwayref0_EqBytes.mono_l : ∀ k, (∀ y0 y1 y2, LeO (gangwayref0_EqBytes.l0 k y0 y1 y2) (gangwayref0_EqBytes.l0 (k + 1) y0 y1 y2))
  | 0 => fun _ _ _ r h => by simp [gangwayref0_EqBytes.l0] at h
  | k + 1 => by
    have ih0 := gangwayref0_EqBytes.mono_l k
    · intro y0 y1 y2
      unfold gangwayref0_EqBytes.l0
      repeat' first
      | (with_reducible exact ih0 _ _ _)
      | (with_reducible exact LeO.refl _)
      | (with_reducible exact LeO.none _)
      | (with_reducible refine LeO.ite ?_ ?_)
      | (with_reducible refine LeO.bind ?_ (fun _ => ?_))
      | exact ih0 _ _ _
      | exact LeO.none _
      | refine LeO.ite ?_ ?_
      | refine LeO.bind ?_ (fun _ => ?_)
theorem gangwayref0_EqBytes.mono : ∀ a0 a1 k, LeO (gangwayref0_EqBytes.f k a0 a1) (gangwayref0_EqBytes.f (k + 1) a0 a1) := by
  intro a0 a1 k
  have ih0 := gangwayref0_EqBytes.mono_l k
  unfold gangwayref0_EqBytes.f
  repeat' first
      | (with_reducible exact ih0 _ _ _)
      | (with_reducible exact LeO.refl _)
      | (with_reducible exact LeO.none _)
      | (with_reducible refine LeO.ite ?_ ?_)
      | (with_reducible refine LeO.bind ?_ (fun _ => ?_))
      | exact ih0 _ _ _
      | exact LeO.none _
      | refine LeO.ite ?_ ?_
      | refine LeO.bind ?_ (fun _ => ?_)
set_option maxHeartbeats 8000000 in
set_option maxRecDepth 100000 in
theorem gangwayref0_EqBytes.calls (k : Nat) (A0 : Option Addr) (c0 : Nat) (l0 : List Int) (A1 : Option Addr) (c1 : Nat) (l1 : List Int) (r : Bool) (w : World) (hr0 : Kd.C (Kd.int .u8) w A0 l0.length l0) (hc0 : l0.length ≤ c0) (hr1 : Kd.C (Kd.int .u8) w A1 l1.length l1) (hc1 : l1.length ≤ c1) (h : gangwayref0_EqBytes.f k l0 l1 = some r) :
    Calls Try.prog 20 #[.slice A0 l0.length c0, .slice A1 l1.length c1] w fun e w' => e = .returned (.bool r) ∧ Drawn0 w w' := by
  have HR0 := Aside0.mk hr0
  have HC0 := Aside0.mk hc0
  clear hr0 hc0
  have HR1 := Aside0.mk hr1
  have HC1 := Aside0.mk hc1
  clear hr1 hc1
  have H : (if (l0.length : Int) = (l1.length : Int) then (gangwayref0_EqBytes.l0 k l0 l1 0) else (some false)) = some r := h
  clear h
  by_cases c3 : (l0.length : Int) = (l1.length : Int)
  · rw [if_pos c3] at H
    have c3b0 : ((l0.length : Int) == (l1.length : Int)) = true := beq_iff_eq.mpr c3
    have c3b1 : ((l0.length : Int) != (l1.length : Int)) = false := bne_eq_false_iff_eq.mpr c3
    have c3b2 : (l0.length == l1.length) = true := by first | simpa using c3 | (simp at c3 ⊢; omega)
    clear c3
    have H' := Aside0.mk H
    clear H
    go_enter Try.func20, Try.ntmps20
    go_wp2
    repeat (go_quiet (fail); try go_wp2)
    go_loopg [5] k (fun kq v5 w' => ∃ (x5_1 : Int), v5 = .int .i64 x5_1 ∧ Aside0 (gangwayref0_EqBytes.l0 kq l0 l1 x5_1 = some r) ∧ Aside0 (kq ≤ k) ∧ Drawn0 w w')
    case atStart => exact ⟨(0), (by first | rfl | (simp; done) | (simp [*]; done)), H', ⟨Nat.le_refl _⟩, by repeat (first | exact Drawn0.refl _ | apply Drawn0.step)⟩
    case round =>
      clear H'
      try clear c1
      try clear c2
      try clear p2
      try clear c3
      try clear c3b0
      try clear c3b1
      try clear c3b2
      obtain ⟨x5_1, rfl, HA, HK1, ⟨m1, rfl⟩⟩ := hrel
      cases gk with
      | zero => exact absurd HA.out (by simp [gangwayref0_EqBytes.l0])
      | succ k1 =>
        have H := HA.out
        clear HA
        simp only [gangwayref0_EqBytes.l0] at H
        by_cases c4 : x5_1 < (l0.length : Int)
        · rw [if_pos c4] at H
          have c4b0 : decide (x5_1 < (l0.length : Int)) = true := decide_eq_true c4
          clear c4
          by_cases c5 : 0 ≤ x5_1
          · rw [if_pos c5] at H
            have c5b0 : decide (0 ≤ x5_1) = true := decide_eq_true c5
            clear c5
            by_cases c6 : x5_1 < (l1.length : Int)
            · rw [if_pos c6] at H
              have c6b0 : decide (x5_1 < (l1.length : Int)) = true := decide_eq_true c6
              clear c6
              by_cases c7 : (rd l0 x5_1) = (rd l1 x5_1)
              · rw [if_pos c7] at H
                have c7b0 : ((rd l0 x5_1) == (rd l1 x5_1)) = true := beq_iff_eq.mpr c7
                have c7b1 : ((rd l0 x5_1) != (rd l1 x5_1)) = false := bne_eq_false_iff_eq.mpr c7
                clear c7
                have H' := Aside0.mk H
                clear H
                have p294 : 0 ≤ (x5_1 : Int) := of_decide_eq_true (by first | (with_reducible assumption) | assumption)
                have q294 : x5_1 < (l0.length : Int) := of_decide_eq_true (by first | (with_reducible assumption) | assumption)
                obtain ⟨ad294, e294, hx294_0⟩ := Kd.at_int HR0.out x5_1 p294 q294
                cases e294
                replace p294 := eq_true p294
                replace q294 := eq_true q294
                have p295 : 0 ≤ (x5_1 : Int) := of_decide_eq_true (by first | (with_reducible assumption) | assumption)
                have q295 : x5_1 < (l1.length : Int) := of_decide_eq_true (by first | (with_reducible assumption) | assumption)
                obtain ⟨ad295, e295, hx295_0⟩ := Kd.at_int HR1.out x5_1 p295 q295
                cases e295
                replace p295 := eq_true p295
                replace q295 := eq_true q295
                go_wp2
                repeat (go_quiet (fail); try go_wp2)
                go_roundg k1
                case measure => have := HK1.out; omega
                case rel => exact ⟨(wrap64 (x5_1 + 1)), (by first | rfl | (simp; done) | (simp [*]; done)), H', ⟨by have := HK1.out; omega⟩, by repeat (first | exact Drawn0.refl _ | apply Drawn0.step)⟩
              · rw [if_neg c7] at H
                have c7b0 : ((rd l0 x5_1) == (rd l1 x5_1)) = false := beq_eq_false_iff_ne.mpr c7
                have c7b1 : ((rd l0 x5_1) != (rd l1 x5_1)) = true := bne_iff_ne.mpr c7
                obtain rfl := Option.some.inj H
                have p294 : 0 ≤ (x5_1 : Int) := of_decide_eq_true (by first | (with_reducible assumption) | assumption)
                have q294 : x5_1 < (l0.length : Int) := of_decide_eq_true (by first | (with_reducible assumption) | assumption)
                obtain ⟨ad294, e294, hx294_0⟩ := Kd.at_int HR0.out x5_1 p294 q294
                cases e294
                replace p294 := eq_true p294
                replace q294 := eq_true q294
                have p295 : 0 ≤ (x5_1 : Int) := of_decide_eq_true (by first | (with_reducible assumption) | assumption)
                have q295 : x5_1 < (l1.length : Int) := of_decide_eq_true (by first | (with_reducible assumption) | assumption)
                obtain ⟨ad295, e295, hx295_0⟩ := Kd.at_int HR1.out x5_1 p295 q295
                cases e295
                replace p295 := eq_true p295
                replace q295 := eq_true q295
                go_wp2
                repeat (go_quiet (fail); try go_wp2)
                go_ret
                exact ⟨by first | rfl | (simp; done) | (simp [*]; done), by repeat (first | exact Drawn0.refl _ | apply Drawn0.step)⟩
            · rw [if_neg c6] at H
              exact absurd H (by simp)
          · rw [if_neg c5] at H
            exact absurd H (by simp)
        · rw [if_neg c4] at H
          have c4b0 : decide (x5_1 < (l0.length : Int)) = false := decide_eq_false c4
          clear c4
          obtain rfl := Option.some.inj H
          go_wp2
          repeat (go_quiet (fail); try go_wp2)
          go_ret
          exact ⟨by first | rfl | (simp; done) | (simp [*]; done), by repeat (first | exact Drawn0.refl _ | apply Drawn0.step)⟩
  · rw [if_neg c3] at H
    have c3b0 : ((l0.length : Int) == (l1.length : Int)) = false := beq_eq_false_iff_ne.mpr c3
    have c3b1 : ((l0.length : Int) != (l1.length : Int)) = true := bne_iff_ne.mpr c3
    have c3b2 : (l0.length == l1.length) = false := by first | simpa using c3 | (simp at c3 ⊢; omega)
    obtain rfl := Option.some.inj H
    go_enter Try.func20, Try.ntmps20
    go_wp2
    repeat (go_quiet (fail); try go_wp2)
    go_ret
    exact ⟨by first | rfl | (simp; done) | (simp [*]; done), by repeat (first | exact Drawn0.refl _ | apply Drawn0.step)⟩

-- NOT PRINTED: function 21 (gangwayref23_Feed_Stdin)

end Go.Proofs.Ytjpnjbpbajaloaa.PAll
