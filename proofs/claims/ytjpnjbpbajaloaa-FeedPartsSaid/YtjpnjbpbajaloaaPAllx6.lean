/- Printed by a copy of the printer that was turned for this claim: functions as plain Lean functions, with proofs that their calls come to these; or words that such proofs use. -/
import Derived.Test.YtjpnjbpbajaloaaPAllx0
import Derived.Test.YtjpnjbpbajaloaaPAllx1
import Derived.Test.YtjpnjbpbajaloaaPAllx2
import Derived.Test.YtjpnjbpbajaloaaPAllx4
import Derived.Test.YtjpnjbpbajaloaaPAllx5
namespace Go.Proofs.Ytjpnjbpbajaloaa.PAll
open Go.RowKit Go.Proofs.YtjpnjbpbajaloaaW.PrintWords Go.Proofs.YtjpnjbpbajaloaaW.PrintLast Go.Proofs.YtjpnjbpbajaloaaW.PrintMore
attribute [local go_sem] max2_int min2_int max_two min_two max_three min_three max_four min_four   -- for this text's walks alone
set_option linter.unusedVariables false
set_option linter.unusedSimpArgs false

/-! ### gangwaylaw23_FeedParts: function 5 -/
mutual
def gangwaylaw23_FeedParts.l0 : Nat → List Int → List Int → Int → Int → List Int → List Int → List Int → List (S45) → List Int → List Int → List Int → Option (Bool)
  | 0, _, _, _, _, _, _, _, _, _, _, _ => none
  | k + 1, x5, x6, x7, x8, x353000, x353001, x353002, x353003, x365000, x365001, x365002 => if x8 < (x353003.length : Int) then (gangwaylaw23_FeedParts.j1 k x5 x6 x7 x8 (decide (x8 < 40)) x353000 x353001 x353002 x353003 x365000 x365001 x365002) else (gangwaylaw23_FeedParts.j1 k x5 x6 x7 x8 false x353000 x353001 x353002 x353003 x365000 x365001 x365002)
def gangwaylaw23_FeedParts.j1 : Nat → List Int → List Int → Int → Int → Bool → List Int → List Int → List Int → List (S45) → List Int → List Int → List Int → Option (Bool)
  | 0, _, _, _, _, _, _, _, _, _, _, _, _ => none
  | k + 1, x5, x6, x7, x8, x41, x353000, x353001, x353002, x353003, x365000, x365001, x365002 => if x41 = true then (if 0 ≤ x8 then (if x8 < (x353003.length : Int) then ((gangwaylaw0_Within.f ((rd_T45 x353003 x8).f1) 50).bind fun t368 => ((feed_Feed_Stdin.f x365000 x365001 x365002 t368).bind fun bt369 => ((feed_Feed_Random.f bt369.2.2.1 bt369.2.2.2.1 bt369.2.2.2.2 t368).bind fun bt382 => ((feed_Feed_Clock.f bt382.2.2.1 bt382.2.2.2.1 bt382.2.2.2.2).bind fun bt395 => ((gangwaylaw23_num.f bt369.2.1).bind fun t405 => (if t405 = 0 then ((gangwaylaw23_num.f bt382.2.1).bind fun t406 => (if t406 = 0 then (if (bt382.1.length : Int) = t368 then (if (bt369.1.length : Int) > t368 then (none) else (if bt395.1 < x7 then (none) else (if x5.length + bt369.1.length < 140737488355328 then (if x6.length + bt382.1.length < 140737488355328 then (gangwaylaw23_FeedParts.l0 k (x5 ++ bt369.1) (x6 ++ bt382.1) bt395.1 (wrap64 (x8 + 1)) x353000 x353001 x353002 x353003 bt395.2.1 bt395.2.2.1 bt395.2.2.2) else (none)) else (none)))) else (none)) else (none))) else (none))))))) else (none)) else (none)) else ((feed_Feed_Left.f x365000 x365001 x365002).bind fun bt413 => (if (wrap64 ((x5.length : Int) + bt413.1)) = (x353002.length : Int) then (if 0 ≤ (x5.length : Int) then (if (x5.length : Int) ≤ (x353002.length : Int) then ((gangwayref0_EqBytes.f k x5 (x353002.take ((x5.length : Int) : Int).toNat)).bind fun t424 => (if t424 = true then (gangwaylaw23_FeedParts.l1 k x6 0 x353000 x353001 x353002 x353003) else (none))) else (none)) else (none)) else (none)))
def gangwaylaw23_FeedParts.l1 : Nat → List Int → Int → List Int → List Int → List Int → List (S45) → Option (Bool)
  | 0, _, _, _, _, _, _ => none
  | k + 1, x6, x15, x353000, x353001, x353002, x353003 => if x15 < (x6.length : Int) then (if x15 < (x353001.length : Int) then (if 0 ≤ x15 then (if (rd x6 x15) = (rd x353001 x15) then (gangwaylaw23_FeedParts.l1 k x6 (wrap64 (x15 + 1)) x353000 x353001 x353002 x353003) else (none)) else (none)) else (if 0 ≤ x15 then (if (rd x6 x15) = 0 then (gangwaylaw23_FeedParts.l1 k x6 (wrap64 (x15 + 1)) x353000 x353001 x353002 x353003) else (none)) else (none))) else ((gangwaylaw23_wakes.f k).bind fun t425 => (some t425))
end
def gangwaylaw23_FeedParts.f (k : Nat) (l0_0 : List Int) (l0_1 : List Int) (l0_2 : List Int) (l0_3 : List (S45)) : Option (Bool) := (gangwaylaw23_heavy.f k l0_0 l0_1 l0_2 l0_3).bind fun t353 => (if t353 = true then (some true) else ((feed_New.f k l0_0 l0_1 l0_2).bind fun bt354 => (if bt354.1 = true then ((gangwaylaw23_num.f bt354.2.2.2.2).bind fun t366 => (if t366 = 0 then (gangwaylaw23_FeedParts.l0 k ([] : List Int) ([] : List Int) 0 0 l0_0 l0_1 l0_2 l0_3 bt354.2.1 bt354.2.2.1 bt354.2.2.2.1) else (none))) else ((gangwaylaw23_num.f bt354.2.2.2.2).bind fun t429 => (if t429 = 0 then (none) else ((gangwaylaw23_wakes.f k).bind fun t430 => (some t430)))))))
theorem gangwaylaw23_FeedParts.mono_l : ∀ k, (∀ y0 y1 y2 y3 y4 y5 y6 y7 y8 y9 y10, LeO (gangwaylaw23_FeedParts.l0 k y0 y1 y2 y3 y4 y5 y6 y7 y8 y9 y10) (gangwaylaw23_FeedParts.l0 (k + 1) y0 y1 y2 y3 y4 y5 y6 y7 y8 y9 y10)) ∧ (∀ y0 y1 y2 y3 y4 y5 y6 y7 y8 y9 y10 y11, LeO (gangwaylaw23_FeedParts.j1 k y0 y1 y2 y3 y4 y5 y6 y7 y8 y9 y10 y11) (gangwaylaw23_FeedParts.j1 (k + 1) y0 y1 y2 y3 y4 y5 y6 y7 y8 y9 y10 y11)) ∧ (∀ y0 y1 y2 y3 y4 y5, LeO (gangwaylaw23_FeedParts.l1 k y0 y1 y2 y3 y4 y5) (gangwaylaw23_FeedParts.l1 (k + 1) y0 y1 y2 y3 y4 y5))
  | 0 => ⟨fun _ _ _ _ _ _ _ _ _ _ _ r h => by simp [gangwaylaw23_FeedParts.l0] at h, fun _ _ _ _ _ _ _ _ _ _ _ _ r h => by simp [gangwaylaw23_FeedParts.j1] at h, fun _ _ _ _ _ _ r h => by simp [gangwaylaw23_FeedParts.l1] at h⟩
  | k + 1 => by
    obtain ⟨ih0, ih1, ih2⟩ := gangwaylaw23_FeedParts.mono_l k
    refine ⟨?_, ?_, ?_⟩
    · intro y0 y1 y2 y3 y4 y5 y6 y7 y8 y9 y10
      unfold gangwaylaw23_FeedParts.l0
      repeat' first
      | (with_reducible exact ih0 _ _ _ _ _ _ _ _ _ _ _)
      | (with_reducible exact ih1 _ _ _ _ _ _ _ _ _ _ _ _)
      | (with_reducible exact ih2 _ _ _ _ _ _)
      | (with_reducible exact feed_New.mono _ _ _ _)
      | (with_reducible exact gangwaylaw23_heavy.mono _ _ _ _ _)
      | (with_reducible exact gangwaylaw23_wakes.mono _)
      | (with_reducible exact gangwayref0_EqBytes.mono _ _ _)
      | (with_reducible exact LeO.refl _)
      | (with_reducible exact LeO.none _)
      | (with_reducible refine LeO.ite ?_ ?_)
      | (with_reducible refine LeO.bind ?_ (fun _ => ?_))
      | exact ih0 _ _ _ _ _ _ _ _ _ _ _
      | exact ih1 _ _ _ _ _ _ _ _ _ _ _ _
      | exact ih2 _ _ _ _ _ _
      | exact feed_New.mono _ _ _ _
      | exact gangwaylaw23_heavy.mono _ _ _ _ _
      | exact gangwaylaw23_wakes.mono _
      | exact gangwayref0_EqBytes.mono _ _ _
      | exact LeO.none _
      | refine LeO.ite ?_ ?_
      | refine LeO.bind ?_ (fun _ => ?_)
    · intro y0 y1 y2 y3 y4 y5 y6 y7 y8 y9 y10 y11
      unfold gangwaylaw23_FeedParts.j1
      repeat' first
      | (with_reducible exact ih0 _ _ _ _ _ _ _ _ _ _ _)
      | (with_reducible exact ih1 _ _ _ _ _ _ _ _ _ _ _ _)
      | (with_reducible exact ih2 _ _ _ _ _ _)
      | (with_reducible exact feed_New.mono _ _ _ _)
      | (with_reducible exact gangwaylaw23_heavy.mono _ _ _ _ _)
      | (with_reducible exact gangwaylaw23_wakes.mono _)
      | (with_reducible exact gangwayref0_EqBytes.mono _ _ _)
      | (with_reducible exact LeO.refl _)
      | (with_reducible exact LeO.none _)
      | (with_reducible refine LeO.ite ?_ ?_)
      | (with_reducible refine LeO.bind ?_ (fun _ => ?_))
      | exact ih0 _ _ _ _ _ _ _ _ _ _ _
      | exact ih1 _ _ _ _ _ _ _ _ _ _ _ _
      | exact ih2 _ _ _ _ _ _
      | exact feed_New.mono _ _ _ _
      | exact gangwaylaw23_heavy.mono _ _ _ _ _
      | exact gangwaylaw23_wakes.mono _
      | exact gangwayref0_EqBytes.mono _ _ _
      | exact LeO.none _
      | refine LeO.ite ?_ ?_
      | refine LeO.bind ?_ (fun _ => ?_)
    · intro y0 y1 y2 y3 y4 y5
      unfold gangwaylaw23_FeedParts.l1
      repeat' first
      | (with_reducible exact ih0 _ _ _ _ _ _ _ _ _ _ _)
      | (with_reducible exact ih1 _ _ _ _ _ _ _ _ _ _ _ _)
      | (with_reducible exact ih2 _ _ _ _ _ _)
      | (with_reducible exact feed_New.mono _ _ _ _)
      | (with_reducible exact gangwaylaw23_heavy.mono _ _ _ _ _)
      | (with_reducible exact gangwaylaw23_wakes.mono _)
      | (with_reducible exact gangwayref0_EqBytes.mono _ _ _)
      | (with_reducible exact LeO.refl _)
      | (with_reducible exact LeO.none _)
      | (with_reducible refine LeO.ite ?_ ?_)
      | (with_reducible refine LeO.bind ?_ (fun _ => ?_))
      | exact ih0 _ _ _ _ _ _ _ _ _ _ _
      | exact ih1 _ _ _ _ _ _ _ _ _ _ _ _
      | exact ih2 _ _ _ _ _ _
      | exact feed_New.mono _ _ _ _
      | exact gangwaylaw23_heavy.mono _ _ _ _ _
      | exact gangwaylaw23_wakes.mono _
      | exact gangwayref0_EqBytes.mono _ _ _
      | exact LeO.none _
      | refine LeO.ite ?_ ?_
      | refine LeO.bind ?_ (fun _ => ?_)
theorem gangwaylaw23_FeedParts.mono : ∀ a0 a1 a2 a3 k, LeO (gangwaylaw23_FeedParts.f k a0 a1 a2 a3) (gangwaylaw23_FeedParts.f (k + 1) a0 a1 a2 a3) := by
  intro a0 a1 a2 a3 k
  obtain ⟨ih0, ih1, ih2⟩ := gangwaylaw23_FeedParts.mono_l k
  unfold gangwaylaw23_FeedParts.f
  repeat' first
      | (with_reducible exact ih0 _ _ _ _ _ _ _ _ _ _ _)
      | (with_reducible exact ih1 _ _ _ _ _ _ _ _ _ _ _ _)
      | (with_reducible exact ih2 _ _ _ _ _ _)
      | (with_reducible exact feed_New.mono _ _ _ _)
      | (with_reducible exact gangwaylaw23_heavy.mono _ _ _ _ _)
      | (with_reducible exact gangwaylaw23_wakes.mono _)
      | (with_reducible exact gangwayref0_EqBytes.mono _ _ _)
      | (with_reducible exact LeO.refl _)
      | (with_reducible exact LeO.none _)
      | (with_reducible refine LeO.ite ?_ ?_)
      | (with_reducible refine LeO.bind ?_ (fun _ => ?_))
      | exact ih0 _ _ _ _ _ _ _ _ _ _ _
      | exact ih1 _ _ _ _ _ _ _ _ _ _ _ _
      | exact ih2 _ _ _ _ _ _
      | exact feed_New.mono _ _ _ _
      | exact gangwaylaw23_heavy.mono _ _ _ _ _
      | exact gangwaylaw23_wakes.mono _
      | exact gangwayref0_EqBytes.mono _ _ _
      | exact LeO.none _
      | refine LeO.ite ?_ ?_
      | refine LeO.bind ?_ (fun _ => ?_)
def gangwaylaw23_FeedParts.T20 : Bool × List (List Nat × List Nat) := (true, [([], []), ([0], [0]), ([], []), ([2], [2]), ([1, 3], [1, 3]), ([], []), ([5], [5]), ([6], [6]), ([7], [7]), ([4, 8], [4, 8]), ([9, 3], [9]), ([10], [10]), ([10], [10]), ([12, 10], [10, 12]), ([13, 10], [10, 13]), ([10], [10]), ([15, 10], [10, 15]), ([14, 16, 10], [10, 14, 16]), ([11, 17, 10, 10], [10, 11, 17]), ([18, 10], [10, 18]), ([10, 19], [10, 19])])
def gangwaylaw23_FeedParts.B20 : List Nat := [0, 1, 0, 4, 15, 0, 32, 96, 224, 511, 1023, 2047, 2047, 6143, 14335, 2047, 34815, 129023, 262143, 524287, 1048575]
theorem gangwaylaw23_FeedParts.tab20 : rtab .any (opsOf Try.f5 20) = gangwaylaw23_FeedParts.T20 := by kernel_rfl
theorem gangwaylaw23_FeedParts.bits20 : waitsOk gangwaylaw23_FeedParts.T20.2 gangwaylaw23_FeedParts.B20 = true := by kernel_rfl
set_option maxHeartbeats 8000000 in
set_option maxRecDepth 100000 in
theorem gangwaylaw23_FeedParts.calls (k : Nat) (A0_0 : Option Addr) (c0_0 : Nat) (l0_0 : List Int) (A0_1 : Option Addr) (c0_1 : Nat) (l0_1 : List Int) (A0_2 : Option Addr) (c0_2 : Nat) (l0_2 : List Int) (A0_3 : Option Addr) (c0_3 : Nat) (l0_3 : List (S45)) (r : Bool) (w : World) (hr0_0 : Kd.C (Kd.int .i64) w A0_0 l0_0.length l0_0) (hc0_0 : l0_0.length ≤ c0_0) (hr0_1 : Kd.C (Kd.int .u8) w A0_1 l0_1.length l0_1) (hc0_1 : l0_1.length ≤ c0_1) (hr0_2 : Kd.C (Kd.int .u8) w A0_2 l0_2.length l0_2) (hc0_2 : l0_2.length ≤ c0_2) (hr0_3 : Kd.C k45 w A0_3 l0_3.length l0_3) (hc0_3 : l0_3.length ≤ c0_3) (h : gangwaylaw23_FeedParts.f k l0_0 l0_1 l0_2 l0_3 = some r) :
    Calls Try.prog 5 #[.agg #[.slice A0_0 l0_0.length c0_0, .slice A0_1 l0_1.length c0_1, .slice A0_2 l0_2.length c0_2, .slice A0_3 l0_3.length c0_3]] w fun e w' => e = .returned (.bool r) ∧ Below w.heap.size w w' := by
  have hu28 := Try.underlying28
  have hu25 := Try.underlying25
  have HR0_0 := Aside0.mk hr0_0
  have HC0_0 := Aside0.mk hc0_0
  clear hr0_0 hc0_0
  have HR0_1 := Aside0.mk hr0_1
  have HC0_1 := Aside0.mk hc0_1
  clear hr0_1 hc0_1
  have HR0_2 := Aside0.mk hr0_2
  have HC0_2 := Aside0.mk hc0_2
  clear hr0_2 hc0_2
  have HR0_3 := Aside0.mk hr0_3
  have HC0_3 := Aside0.mk hc0_3
  clear hr0_3 hc0_3
  have HB := Aside0.mk (Below.refl w.heap.size w)
  have H : ((gangwaylaw23_heavy.f k l0_0 l0_1 l0_2 l0_3).bind fun t353 => (if t353 = true then (some true) else ((feed_New.f k l0_0 l0_1 l0_2).bind fun bt354 => (if bt354.1 = true then ((gangwaylaw23_num.f bt354.2.2.2.2).bind fun t366 => (if t366 = 0 then (gangwaylaw23_FeedParts.l0 k ([] : List Int) ([] : List Int) 0 0 l0_0 l0_1 l0_2 l0_3 bt354.2.1 bt354.2.2.1 bt354.2.2.2.1) else (none))) else ((gangwaylaw23_num.f bt354.2.2.2.2).bind fun t429 => (if t429 = 0 then (none) else ((gangwaylaw23_wakes.f k).bind fun t430 => (some t430)))))))) = some r := h
  clear h
  replace H := Option.bind_eq_some_iff.mp H
  obtain ⟨t353, A20, H⟩ := H
  replace H : (if t353 = true then (some true) else ((feed_New.f k l0_0 l0_1 l0_2).bind fun bt354 => (if bt354.1 = true then ((gangwaylaw23_num.f bt354.2.2.2.2).bind fun t366 => (if t366 = 0 then (gangwaylaw23_FeedParts.l0 k ([] : List Int) ([] : List Int) 0 0 l0_0 l0_1 l0_2 l0_3 bt354.2.1 bt354.2.2.1 bt354.2.2.2.1) else (none))) else ((gangwaylaw23_num.f bt354.2.2.2.2).bind fun t429 => (if t429 = 0 then (none) else ((gangwaylaw23_wakes.f k).bind fun t430 => (some t430))))))) = some r := H
  have A2 := Aside0.mk A20
  clear A20
  by_cases c3 : t353 = true
  · subst c3
    have H1 : (some true) = some r := by rw [if_pos rfl] at H; exact H
    clear H
    have H := H1
    clear H1
    obtain rfl := Option.some.inj H
    go_enter Try.func5, Try.ntmps5
    go_wp2_with (first | ((with_reducible refine gate_dst (N := 1) rfl ?_); (try (refine gate_guard (by rfl) ?_; dsimp only)); refine box_event ?hg (N := 1) ?hd (cs := #[.slice A0_0 l0_0.length c0_0, .slice A0_1 l0_1.length c0_1, .slice A0_2 l0_2.length c0_2, .slice A0_3 l0_3.length c0_3]) (t := 28) ?hr ?_; (case hd => rfl); (case hg => rfl); (case hr => first | (go_simp; done) | (go_simp; rfl)); intro gb352 hg w4 hbox hb; have n0_ := Aside0.mk (below_step (by repeat (first | (with_reducible first | exact HB.out | apply below_alloc | apply pw_below_drewN | apply below_drew1) | exact HB.out)) hb); have n1_ := Aside0.mk (hbox); have n2_ := Aside0.mk ((by rw [hg]; exact (below_size (by repeat (first | (with_reducible first | exact HB.out | apply below_alloc | apply pw_below_drewN | apply below_drew1) | exact HB.out))) : w.heap.size ≤ gb352)); have n3_ := Aside0.mk ((by rw [hg]; exact (below_size (by repeat (first | (with_reducible first | exact HB.out | apply below_alloc | apply pw_below_drewN | apply below_drew1) | exact HB.out))) : w.heap.size ≤ gb352)); clear HB; have HB := n0_; have BK352 := n1_; have GW352 := n2_; have GE352 := n3_; clear n0_ n1_ n2_ n3_; clear hb hbox hg; have hcz5_0 : w4.cell? ⟨gb352, 0, none⟩ = some (.slice A0_0 l0_0.length c0_0) := (blk_cell BK352.out 0).trans rfl; have hcz5_1 : w4.cell? ⟨gb352, 1, none⟩ = some (.slice A0_1 l0_1.length c0_1) := (blk_cell BK352.out 1).trans rfl; have hcz5_2 : w4.cell? ⟨gb352, 2, none⟩ = some (.slice A0_2 l0_2.length c0_2) := (blk_cell BK352.out 2).trans rfl; have hcz5_3 : w4.cell? ⟨gb352, 3, none⟩ = some (.slice A0_3 l0_3.length c0_3) := (blk_cell BK352.out 3).trans rfl; have hfz5_0 := blk_frozen BK352.out 0; have hfz5_1 := blk_frozen BK352.out 1; have hfz5_2 := blk_frozen BK352.out 2; have hfz5_3 := blk_frozen BK352.out 3) | ((with_reducible refine gate_callee (f := 6) rfl ?_); refine goesL_ (some 18) rfl rfl Try.func6 (by kernel_rfl) rfl #[.agg #[.slice A0_0 l0_0.length c0_0, .slice A0_1 l0_1.length c0_1, .slice A0_2 l0_2.length c0_2, .slice A0_3 l0_3.length c0_3]] rfl (by (try simp only [List.map_toArray, List.map_cons, List.map_nil]); first | done | rfl | (simp only [List.length_drop, List.length_take]; rfl)) ?_; (with_reducible refine (gangwaylaw23_heavy.calls k _ _ l0_0 _ _ l0_1 _ _ l0_2 _ _ l0_3 true _ ?side1 ?side2 ?side3 ?side4 ?side5 ?side6 ?side7 ?side8 A2.out).mono ?_); (case side1 => repeat (first | exact (Kd.C_below HR0_0.out HB.out) | (with_reducible refine Kd.C_alloc ?_ _) | (with_reducible refine Kd.C_drewN ?_ _) | (with_reducible refine Kd.C_drew ?_))); (case side2 => exact HC0_0.out); (case side3 => repeat (first | exact (Kd.C_below HR0_1.out HB.out) | (with_reducible refine Kd.C_alloc ?_ _) | (with_reducible refine Kd.C_drewN ?_ _) | (with_reducible refine Kd.C_drew ?_))); (case side4 => exact HC0_1.out); (case side5 => repeat (first | exact (Kd.C_below HR0_2.out HB.out) | (with_reducible refine Kd.C_alloc ?_ _) | (with_reducible refine Kd.C_drewN ?_ _) | (with_reducible refine Kd.C_drew ?_))); (case side6 => exact HC0_2.out); (case side7 => repeat (first | exact (Kd.C_below HR0_3.out HB.out) | (with_reducible refine Kd.C_alloc ?_ _) | (with_reducible refine Kd.C_drewN ?_ _) | (with_reducible refine Kd.C_drew ?_))); (case side8 => exact HC0_3.out); rintro e w6 ⟨rfl, hb⟩; refine ⟨_, rfl, ?_⟩; have n0_ := Aside0.mk (blk_below (g := gb352) (o := .cells #[.slice A0_0 l0_0.length c0_0, .slice A0_1 l0_1.length c0_1, .slice A0_2 l0_2.length c0_2, .slice A0_3 l0_3.length c0_3] 28 (0, 0)) (by (with_reducible repeat (first | refine blk_drewN ?_ _ | refine blk_drew ?_ | refine blk_alloc ?_ _)); exact BK352.out) hb); have n1_ := Aside0.mk (below_step (by repeat (first | (with_reducible first | exact HB.out | apply below_alloc | apply pw_below_drewN | apply below_drew1 | refine below_set ?_ GE352.out) | exact HB.out)) hb); clear BK352; clear HB; have BK352 := n0_; have HB := n1_; clear n0_ n1_; (try clear hb); (try clear hb2); (try clear hk); (try clear hi)))
    go_ret
    exact ⟨by first | rfl | (simp [errW_none, errW_some] <;> rfl) | (simp [*, errW_none, errW_some] <;> rfl), by repeat (first | (with_reducible first | exact HB.out | apply below_alloc | apply pw_below_drewN | apply below_drew1 | refine below_set ?_ GE352.out) | exact HB.out)⟩
  · replace c3 := Bool.eq_false_iff.mpr c3
    subst c3
    have H1 : ((feed_New.f k l0_0 l0_1 l0_2).bind fun bt354 => (if bt354.1 = true then ((gangwaylaw23_num.f bt354.2.2.2.2).bind fun t366 => (if t366 = 0 then (gangwaylaw23_FeedParts.l0 k ([] : List Int) ([] : List Int) 0 0 l0_0 l0_1 l0_2 l0_3 bt354.2.1 bt354.2.2.1 bt354.2.2.2.1) else (none))) else ((gangwaylaw23_num.f bt354.2.2.2.2).bind fun t429 => (if t429 = 0 then (none) else ((gangwaylaw23_wakes.f k).bind fun t430 => (some t430)))))) = some r := by rw [if_neg (show ¬ (false = true) by decide)] at H; exact H
    clear H
    have H := H1
    clear H1
    replace H := Option.bind_eq_some_iff.mp H
    obtain ⟨⟨t354, t355, t358, t361, t365⟩, A70, H⟩ := H
    replace H : (if t354 = true then ((gangwaylaw23_num.f t365).bind fun t366 => (if t366 = 0 then (gangwaylaw23_FeedParts.l0 k ([] : List Int) ([] : List Int) 0 0 l0_0 l0_1 l0_2 l0_3 t355 t358 t361) else (none))) else ((gangwaylaw23_num.f t365).bind fun t429 => (if t429 = 0 then (none) else ((gangwaylaw23_wakes.f k).bind fun t430 => (some t430))))) = some r := H
    have A7 := Aside0.mk A70
    clear A70
    by_cases c8 : t354 = true
    · subst c8
      have H1 : ((gangwaylaw23_num.f t365).bind fun t366 => (if t366 = 0 then (gangwaylaw23_FeedParts.l0 k ([] : List Int) ([] : List Int) 0 0 l0_0 l0_1 l0_2 l0_3 t355 t358 t361) else (none))) = some r := by rw [if_pos rfl] at H; exact H
      clear H
      have H := H1
      clear H1
      replace H := Option.bind_eq_some_iff.mp H
      obtain ⟨t366, A90, H⟩ := H
      replace H : (if t366 = 0 then (gangwaylaw23_FeedParts.l0 k ([] : List Int) ([] : List Int) 0 0 l0_0 l0_1 l0_2 l0_3 t355 t358 t361) else (none)) = some r := H
      have A9 := Aside0.mk A90
      clear A90
      by_cases c10 : t366 = 0
      · rw [if_pos c10] at H
        have c10b0 : (t366 == 0) = true := beq_iff_eq.mpr c10
        have c10b1 : (t366 != 0) = false := bne_eq_false_iff_eq.mpr c10
        clear c10
        have H' := Aside0.mk H
        clear H
        go_enter Try.func5, Try.ntmps5
        go_wp2_with (first | ((with_reducible refine gate_dst (N := 1) rfl ?_); (try (refine gate_guard (by rfl) ?_; dsimp only)); refine box_event ?hg (N := 1) ?hd (cs := #[.slice A0_0 l0_0.length c0_0, .slice A0_1 l0_1.length c0_1, .slice A0_2 l0_2.length c0_2, .slice A0_3 l0_3.length c0_3]) (t := 28) ?hr ?_; (case hd => rfl); (case hg => rfl); (case hr => first | (go_simp; done) | (go_simp; rfl)); intro gb352 hg w11 hbox hb; have n0_ := Aside0.mk (below_step (by repeat (first | (with_reducible first | exact HB.out | apply below_alloc | apply pw_below_drewN | apply below_drew1) | exact HB.out)) hb); have n1_ := Aside0.mk (hbox); have n2_ := Aside0.mk ((by rw [hg]; exact (below_size (by repeat (first | (with_reducible first | exact HB.out | apply below_alloc | apply pw_below_drewN | apply below_drew1) | exact HB.out))) : w.heap.size ≤ gb352)); have n3_ := Aside0.mk ((by rw [hg]; exact (below_size (by repeat (first | (with_reducible first | exact HB.out | apply below_alloc | apply pw_below_drewN | apply below_drew1) | exact HB.out))) : w.heap.size ≤ gb352)); clear HB; have HB := n0_; have BK352 := n1_; have GW352 := n2_; have GE352 := n3_; clear n0_ n1_ n2_ n3_; clear hb hbox hg; have hcz12_0 : w11.cell? ⟨gb352, 0, none⟩ = some (.slice A0_0 l0_0.length c0_0) := (blk_cell BK352.out 0).trans rfl; have hcz12_1 : w11.cell? ⟨gb352, 1, none⟩ = some (.slice A0_1 l0_1.length c0_1) := (blk_cell BK352.out 1).trans rfl; have hcz12_2 : w11.cell? ⟨gb352, 2, none⟩ = some (.slice A0_2 l0_2.length c0_2) := (blk_cell BK352.out 2).trans rfl; have hcz12_3 : w11.cell? ⟨gb352, 3, none⟩ = some (.slice A0_3 l0_3.length c0_3) := (blk_cell BK352.out 3).trans rfl; have hfz12_0 := blk_frozen BK352.out 0; have hfz12_1 := blk_frozen BK352.out 1; have hfz12_2 := blk_frozen BK352.out 2; have hfz12_3 := blk_frozen BK352.out 3) | ((with_reducible refine gate_callee (f := 6) rfl ?_); refine goesL_ (some 18) rfl rfl Try.func6 (by kernel_rfl) rfl #[.agg #[.slice A0_0 l0_0.length c0_0, .slice A0_1 l0_1.length c0_1, .slice A0_2 l0_2.length c0_2, .slice A0_3 l0_3.length c0_3]] rfl (by (try simp only [List.map_toArray, List.map_cons, List.map_nil]); first | done | rfl | (simp only [List.length_drop, List.length_take]; rfl)) ?_; (with_reducible refine (gangwaylaw23_heavy.calls k _ _ l0_0 _ _ l0_1 _ _ l0_2 _ _ l0_3 false _ ?side1 ?side2 ?side3 ?side4 ?side5 ?side6 ?side7 ?side8 A2.out).mono ?_); (case side1 => repeat (first | exact (Kd.C_below HR0_0.out HB.out) | (with_reducible refine Kd.C_alloc ?_ _) | (with_reducible refine Kd.C_drewN ?_ _) | (with_reducible refine Kd.C_drew ?_))); (case side2 => exact HC0_0.out); (case side3 => repeat (first | exact (Kd.C_below HR0_1.out HB.out) | (with_reducible refine Kd.C_alloc ?_ _) | (with_reducible refine Kd.C_drewN ?_ _) | (with_reducible refine Kd.C_drew ?_))); (case side4 => exact HC0_1.out); (case side5 => repeat (first | exact (Kd.C_below HR0_2.out HB.out) | (with_reducible refine Kd.C_alloc ?_ _) | (with_reducible refine Kd.C_drewN ?_ _) | (with_reducible refine Kd.C_drew ?_))); (case side6 => exact HC0_2.out); (case side7 => repeat (first | exact (Kd.C_below HR0_3.out HB.out) | (with_reducible refine Kd.C_alloc ?_ _) | (with_reducible refine Kd.C_drewN ?_ _) | (with_reducible refine Kd.C_drew ?_))); (case side8 => exact HC0_3.out); rintro e w13 ⟨rfl, hb⟩; refine ⟨_, rfl, ?_⟩; have n0_ := Aside0.mk (blk_below (g := gb352) (o := .cells #[.slice A0_0 l0_0.length c0_0, .slice A0_1 l0_1.length c0_1, .slice A0_2 l0_2.length c0_2, .slice A0_3 l0_3.length c0_3] 28 (0, 0)) (by (with_reducible repeat (first | refine blk_drewN ?_ _ | refine blk_drew ?_ | refine blk_alloc ?_ _)); exact BK352.out) hb); have n1_ := Aside0.mk (below_step (by repeat (first | (with_reducible first | exact HB.out | apply below_alloc | apply pw_below_drewN | apply below_drew1 | refine below_set ?_ GE352.out) | exact HB.out)) hb); clear BK352; clear HB; have BK352 := n0_; have HB := n1_; clear n0_ n1_; (try clear hb); (try clear hb2); (try clear hk); (try clear hi); have hcz14_0 : w13.cell? ⟨gb352, 0, none⟩ = some (.slice A0_0 l0_0.length c0_0) := (blk_cell BK352.out 0).trans rfl; have hcz14_1 : w13.cell? ⟨gb352, 1, none⟩ = some (.slice A0_1 l0_1.length c0_1) := (blk_cell BK352.out 1).trans rfl; have hcz14_2 : w13.cell? ⟨gb352, 2, none⟩ = some (.slice A0_2 l0_2.length c0_2) := (blk_cell BK352.out 2).trans rfl; have hcz14_3 : w13.cell? ⟨gb352, 3, none⟩ = some (.slice A0_3 l0_3.length c0_3) := (blk_cell BK352.out 3).trans rfl; have hfz14_0 := blk_frozen BK352.out 0; have hfz14_1 := blk_frozen BK352.out 1; have hfz14_2 := blk_frozen BK352.out 2; have hfz14_3 := blk_frozen BK352.out 3) | ((with_reducible refine gate_callee (f := 7) rfl ?_); refine goesL_ (some 22) rfl rfl Try.func7 (by kernel_rfl) rfl #[.agg #[.slice A0_0 l0_0.length c0_0, .slice A0_1 l0_1.length c0_1, .slice A0_2 l0_2.length c0_2]] rfl (by (try simp only [List.map_toArray, List.map_cons, List.map_nil]); first | done | rfl | (simp only [List.length_drop, List.length_take]; rfl)) ?_; (with_reducible refine (feed_New.calls k _ _ l0_0 _ _ l0_1 _ _ l0_2 true t355 t358 t361 t365 _ ?side1 ?side2 ?side3 ?side4 ?side5 ?side6 A7.out).mono ?_); (case side1 => repeat (first | exact (Kd.C_below HR0_0.out HB.out) | (with_reducible refine Kd.C_alloc ?_ _) | (with_reducible refine Kd.C_drewN ?_ _) | (with_reducible refine Kd.C_drew ?_))); (case side2 => exact HC0_0.out); (case side3 => repeat (first | exact (Kd.C_below HR0_1.out HB.out) | (with_reducible refine Kd.C_alloc ?_ _) | (with_reducible refine Kd.C_drewN ?_ _) | (with_reducible refine Kd.C_drew ?_))); (case side4 => exact HC0_1.out); (case side5 => repeat (first | exact (Kd.C_below HR0_2.out HB.out) | (with_reducible refine Kd.C_alloc ?_ _) | (with_reducible refine Kd.C_drewN ?_ _) | (with_reducible refine Kd.C_drew ?_))); (case side6 => exact HC0_2.out); rintro e w15 ⟨v356, v359, v362, pz364, rfl, ho0, ho1, ho2, hz364, hb⟩; refine ⟨_, rfl, ?_⟩; have n0_ := Aside0.mk (Kd.Q_lower ho0 (below_size (by repeat (first | (with_reducible first | exact HB.out | apply below_alloc | apply pw_below_drewN | apply below_drew1 | refine below_set ?_ GE352.out) | exact HB.out)))); have n1_ := Aside0.mk (Kd.Q_lower ho1 (below_size (by repeat (first | (with_reducible first | exact HB.out | apply below_alloc | apply pw_below_drewN | apply below_drew1 | refine below_set ?_ GE352.out) | exact HB.out)))); have n2_ := Aside0.mk (Kd.Q_lower ho2 (below_size (by repeat (first | (with_reducible first | exact HB.out | apply below_alloc | apply pw_below_drewN | apply below_drew1 | refine below_set ?_ GE352.out) | exact HB.out)))); have n3_ := Aside0.mk (blk_below (g := gb352) (o := .cells #[.slice A0_0 l0_0.length c0_0, .slice A0_1 l0_1.length c0_1, .slice A0_2 l0_2.length c0_2, .slice A0_3 l0_3.length c0_3] 28 (0, 0)) (by (with_reducible repeat (first | refine blk_drewN ?_ _ | refine blk_drew ?_ | refine blk_alloc ?_ _)); exact BK352.out) hb); have n4_ := Aside0.mk ((show (true = true → ∃ g_ : Nat, pz364 = .pointer (some ⟨g_, 0, none⟩) ∧ IsS55 w w15 g_ v356 v359 v362 ∧ gb352 ≠ g_) ∧ (true = false → pz364 = .pointer none) from ⟨fun h_ => (hz364.1 h_).elim fun g_ hg_ => ⟨g_, hg_.1, hg_.2.lower ((below_size (by repeat (first | (with_reducible first | exact HB.out | apply below_alloc | apply pw_below_drewN | apply below_drew1 | refine below_set ?_ GE352.out) | exact HB.out)))), Nat.ne_of_lt (Nat.lt_of_lt_of_le (blk_lt (g := gb352) (o := .cells #[.slice A0_0 l0_0.length c0_0, .slice A0_1 l0_1.length c0_1, .slice A0_2 l0_2.length c0_2, .slice A0_3 l0_3.length c0_3] 28 (0, 0)) (by (with_reducible repeat (first | refine blk_drewN ?_ _ | refine blk_drew ?_ | refine blk_alloc ?_ _)); exact BK352.out)) hg_.2.ge)⟩, hz364.2⟩)); have n5_ := Aside0.mk (below_step (by repeat (first | (with_reducible first | exact HB.out | apply below_alloc | apply pw_below_drewN | apply below_drew1 | refine below_set ?_ GE352.out) | exact HB.out)) hb); clear BK352; clear HB; have HO357 := n0_; have HO360 := n1_; have HO363 := n2_; have BK352 := n3_; have HZ364 := n4_; have HB := n5_; clear n0_ n1_ n2_ n3_ n4_ n5_; (try clear hb); (try clear hb2); (try clear hk); (try clear hi); (try clear ho0); (try clear ho1); (try clear ho2); obtain ⟨g364, e_, hi_, hn0_⟩ := HZ364.out.1 rfl; subst e_; have HI364 := Aside0.mk hi_; clear hi_ HZ364; have NB352_364 := Aside0.mk hn0_; have NB364_352 := Aside0.mk (Ne.symm hn0_); clear hn0_) | ((with_reducible refine gate_callee (f := 8) rfl ?_); refine goesL_ (some 26) rfl rfl Try.func8 (by kernel_rfl) rfl #[.int .i64 t365] rfl (by (try simp only [List.map_toArray, List.map_cons, List.map_nil]); first | done | rfl | (simp only [List.length_drop, List.length_take]; rfl)) ?_; (with_reducible refine (gangwaylaw23_num.calls t365 t366 _ A9.out).mono ?_); rintro e w' ⟨rfl, ⟨nd, rfl⟩⟩; refine ⟨_, rfl, ?_⟩))
        go_loopg [5, 6, 7, 8] k (fun kq v5 v6 v7 v8 w' => ∃ (x5_1 : List Int) (x6_1 : List Int) (x7_1 : Int) (x8_1 : Int) (x365000_1 : List Int) (x365001_1 : List Int) (x365002_1 : List Int) (u365000 : Value) (u365001 : Value) (u365002 : Value), v7 = .int .i64 x7_1 ∧ v8 = .int .i64 x8_1 ∧ Aside0 (gangwaylaw23_FeedParts.l0 kq x5_1 x6_1 x7_1 x8_1 l0_0 l0_1 l0_2 l0_3 x365000_1 x365001_1 x365002_1 = some r) ∧ Aside0 (kq ≤ k) ∧ Aside0 (Kd.R (Kd.int .u8) 5 w' w.heap.size (fun k_ => some k_ ≠ (v6 : Value).ownBlock ∧ some k_ ≠ (u365001 : Value).ownBlock ∧ some k_ ≠ (u365002 : Value).ownBlock) v5 x5_1) ∧ Aside0 (Kd.R (Kd.int .u8) 5 w' w.heap.size (fun k_ => some k_ ≠ (v5 : Value).ownBlock ∧ some k_ ≠ (u365001 : Value).ownBlock ∧ some k_ ≠ (u365002 : Value).ownBlock) v6 x6_1) ∧ Aside0 (Kd.Q (Kd.int .i64) 2 w' w.heap.size (fun _ => True) u365000 x365000_1) ∧ Aside0 (Kd.Q (Kd.int .u8) 5 w' w.heap.size (fun k_ => some k_ ≠ (v5 : Value).ownBlock ∧ some k_ ≠ (v6 : Value).ownBlock ∧ some k_ ≠ (u365002 : Value).ownBlock) u365001 x365001_1) ∧ Aside0 (Kd.Q (Kd.int .u8) 5 w' w.heap.size (fun k_ => some k_ ≠ (v5 : Value).ownBlock ∧ some k_ ≠ (v6 : Value).ownBlock ∧ some k_ ≠ (u365001 : Value).ownBlock) u365002 x365002_1) ∧ Aside0 (w'.heap[gb352]? = some (.cells #[(.slice A0_0 l0_0.length c0_0), (.slice A0_1 l0_1.length c0_1), (.slice A0_2 l0_2.length c0_2), (.slice A0_3 l0_3.length c0_3)] 28 (0, 0))) ∧ Aside0 (IsS55 w w' g364 u365000 u365001 u365002) ∧ Aside0 (Below w.heap.size w w'))
        case atStart => exact ⟨(([] : List Int)), (([] : List Int)), (0), (0), (t355), (t358), (t361), (v356), (v359), (v362), (by first | rfl | (simp; done) | (simp [*]; done)), (by first | rfl | (simp; done) | (simp [*]; done)), H', ⟨Nat.le_refl _⟩, ⟨by first | exact Kd.R_nil _ _ _ _ _ | exact Kd.N_nil _ _ _ _ _ | exact Kd.V_nil _ _ _ _ _ | exact Kd.Q_nil _ _ _ _ _ | exact Kd.S_nil _ _ _ _ _⟩, ⟨by first | exact Kd.R_nil _ _ _ _ _ | exact Kd.N_nil _ _ _ _ _ | exact Kd.V_nil _ _ _ _ _ | exact Kd.Q_nil _ _ _ _ _ | exact Kd.S_nil _ _ _ _ _⟩, ⟨by (with_reducible repeat (first | apply Kd.Q_alloc | apply Kd.Q_drewN | apply Kd.Q_drew)); exact HO357.out⟩, ⟨by (with_reducible repeat (first | apply Kd.Q_alloc | apply Kd.Q_drewN | apply Kd.Q_drew)); exact Kd.Q_mono HO360.out (fun _ hk => ⟨(by simp [Value.ownBlock]), ⟨(by simp [Value.ownBlock]), hk⟩⟩)⟩, ⟨by (with_reducible repeat (first | apply Kd.Q_alloc | apply Kd.Q_drewN | apply Kd.Q_drew)); exact Kd.Q_mono HO363.out (fun _ hk => ⟨(by simp [Value.ownBlock]), ⟨(by simp [Value.ownBlock]), hk⟩⟩)⟩, ⟨by (with_reducible repeat (first | refine blk_drewN ?_ _ | refine blk_drew ?_ | refine blk_alloc ?_ _)); exact BK352.out⟩, ⟨by repeat (first | (with_reducible first | exact HI364.out | apply IsS55.alloc | apply IsS55.drewN | apply IsS55.drew | apply IsS55.set_0 | apply IsS55.set_1 | apply IsS55.set_2 | refine IsS55.far ?_ NB364_352.out _) | exact HI364.out)⟩, ⟨by repeat (first | (with_reducible first | exact HB.out | apply below_alloc | apply pw_below_drewN | apply below_drew1 | refine below_set ?_ (IsS55.ge HI364.out) | refine below_set ?_ GE352.out) | exact HB.out)⟩⟩
        case round =>
          clear H'
          try clear c1
          try clear p2
          try clear c3
          try clear c5
          try clear c6
          try clear c7
          try clear c8
          try clear c10
          try clear c10b0
          try clear c10b1
          try clear hcz12_0
          try clear hcz12_1
          try clear hcz12_2
          try clear hcz12_3
          try clear hcz14_0
          try clear hcz14_1
          try clear hcz14_2
          try clear hcz14_3
          try clear hcz5_0
          try clear hcz5_1
          try clear hcz5_2
          try clear hcz5_3
          try clear hfz12_0
          try clear hfz12_1
          try clear hfz12_2
          try clear hfz12_3
          try clear hfz14_0
          try clear hfz14_1
          try clear hfz14_2
          try clear hfz14_3
          try clear hfz5_0
          try clear hfz5_1
          try clear hfz5_2
          try clear hfz5_3
          obtain ⟨x5_1, x6_1, x7_1, x8_1, x365000_1, x365001_1, x365002_1, u365000, u365001, u365002, rfl, rfl, HA, HK1, HO_5, HO_6, HO_365000, HO_365001, HO_365002, BK352, HI364, HB⟩ := hrel
          cases gk with
          | zero => exact absurd HA.out (by simp [gangwaylaw23_FeedParts.l0])
          | succ k1 =>
            have H := HA.out
            clear HA
            simp only [gangwaylaw23_FeedParts.l0] at H
            have HC16 := Aside0.mk H
            clear H
            go_upto_region 9 with (fail)
            go_cut [41] (fun v41 wc => ∃ (kq : Nat) (x41_15 : Bool), v41 = .bool x41_15 ∧ Aside0 (gangwaylaw23_FeedParts.j1 kq x5_1 x6_1 x7_1 x8_1 x41_15 l0_0 l0_1 l0_2 l0_3 x365000_1 x365001_1 x365002_1 = some r) ∧ Aside0 (kq ≤ k1) ∧ Aside0 (Kd.R (Kd.int .u8) 5 wc w.heap.size (fun k_ => some k_ ≠ (u6 : Value).ownBlock ∧ some k_ ≠ (u365001 : Value).ownBlock ∧ some k_ ≠ (u365002 : Value).ownBlock) u5 x5_1) ∧ Aside0 (Kd.R (Kd.int .u8) 5 wc w.heap.size (fun k_ => some k_ ≠ (u5 : Value).ownBlock ∧ some k_ ≠ (u365001 : Value).ownBlock ∧ some k_ ≠ (u365002 : Value).ownBlock) u6 x6_1) ∧ Aside0 (Kd.Q (Kd.int .i64) 2 wc w.heap.size (fun _ => True) u365000 x365000_1) ∧ Aside0 (Kd.Q (Kd.int .u8) 5 wc w.heap.size (fun k_ => some k_ ≠ (u5 : Value).ownBlock ∧ some k_ ≠ (u6 : Value).ownBlock ∧ some k_ ≠ (u365002 : Value).ownBlock) u365001 x365001_1) ∧ Aside0 (Kd.Q (Kd.int .u8) 5 wc w.heap.size (fun k_ => some k_ ≠ (u5 : Value).ownBlock ∧ some k_ ≠ (u6 : Value).ownBlock ∧ some k_ ≠ (u365001 : Value).ownBlock) u365002 x365002_1) ∧ Aside0 (wc.heap[gb352]? = some (.cells #[(.slice A0_0 l0_0.length c0_0), (.slice A0_1 l0_1.length c0_1), (.slice A0_2 l0_2.length c0_2), (.slice A0_3 l0_3.length c0_3)] 28 (0, 0))) ∧ Aside0 (IsS55 w wc g364 u365000 u365001 u365002) ∧ Aside0 (Below w.heap.size w wc))
            case first =>
              have H := HC16.out
              clear HC16
              by_cases c17 : x8_1 < (l0_3.length : Int)
              · rw [if_pos c17] at H
                have c17b0 : decide (x8_1 < (l0_3.length : Int)) = true := decide_eq_true c17
                clear c17
                (first | rw [c17b0] | (simp only [i64_w, i32_w]; rw [c17b0]) | skip)
                have H' := Aside0.mk H
                clear H
                have hnb18 := NB352_364.out
                have hnc18 := NB364_352.out
                have hcz19_0 : wr.cell? ⟨gb352, 0, none⟩ = some (.slice A0_0 l0_0.length c0_0) := (blk_cell BK352.out 0).trans rfl
                have hcz19_1 : wr.cell? ⟨gb352, 1, none⟩ = some (.slice A0_1 l0_1.length c0_1) := (blk_cell BK352.out 1).trans rfl
                have hcz19_2 : wr.cell? ⟨gb352, 2, none⟩ = some (.slice A0_2 l0_2.length c0_2) := (blk_cell BK352.out 2).trans rfl
                have hcz19_3 : wr.cell? ⟨gb352, 3, none⟩ = some (.slice A0_3 l0_3.length c0_3) := (blk_cell BK352.out 3).trans rfl
                have hfz19_0 := blk_frozen BK352.out 0
                have hfz19_1 := blk_frozen BK352.out 1
                have hfz19_2 := blk_frozen BK352.out 2
                have hfz19_3 := blk_frozen BK352.out 3
                go_wp2
                go_meet
                case rel => exact ⟨_, (decide (x8_1 < 40)), (by first | rfl | (simp; done) | (simp [*]; done)), H', ⟨by have := HK1.out; first | omega | exact Nat.le_refl _⟩, ⟨by (with_reducible repeat (first | apply Kd.R_alloc | apply Kd.R_drewN | apply Kd.R_drew)); exact HO_5.out⟩, ⟨by (with_reducible repeat (first | apply Kd.R_alloc | apply Kd.R_drewN | apply Kd.R_drew)); exact HO_6.out⟩, ⟨by (with_reducible repeat (first | apply Kd.Q_alloc | apply Kd.Q_drewN | apply Kd.Q_drew)); exact HO_365000.out⟩, ⟨by (with_reducible repeat (first | apply Kd.Q_alloc | apply Kd.Q_drewN | apply Kd.Q_drew)); exact HO_365001.out⟩, ⟨by (with_reducible repeat (first | apply Kd.Q_alloc | apply Kd.Q_drewN | apply Kd.Q_drew)); exact HO_365002.out⟩, ⟨by (with_reducible repeat (first | refine blk_drewN ?_ _ | refine blk_drew ?_ | refine blk_alloc ?_ _)); exact BK352.out⟩, ⟨by repeat (first | (with_reducible first | exact HI364.out | apply IsS55.alloc | apply IsS55.drewN | apply IsS55.drew | apply IsS55.set_0 | apply IsS55.set_1 | apply IsS55.set_2 | refine IsS55.far ?_ NB364_352.out _) | exact HI364.out)⟩, ⟨by repeat (first | (with_reducible first | exact HB.out | apply below_alloc | apply pw_below_drewN | apply below_drew1 | refine below_set ?_ (IsS55.ge HI364.out) | refine below_set ?_ GE352.out) | exact HB.out)⟩⟩
              · rw [if_neg c17] at H
                have c17b0 : decide (x8_1 < (l0_3.length : Int)) = false := decide_eq_false c17
                clear c17
                (first | rw [c17b0] | (simp only [i64_w, i32_w]; rw [c17b0]) | skip)
                have H' := Aside0.mk H
                clear H
                have hnb20 := NB352_364.out
                have hnc20 := NB364_352.out
                have hcz21_0 : wr.cell? ⟨gb352, 0, none⟩ = some (.slice A0_0 l0_0.length c0_0) := (blk_cell BK352.out 0).trans rfl
                have hcz21_1 : wr.cell? ⟨gb352, 1, none⟩ = some (.slice A0_1 l0_1.length c0_1) := (blk_cell BK352.out 1).trans rfl
                have hcz21_2 : wr.cell? ⟨gb352, 2, none⟩ = some (.slice A0_2 l0_2.length c0_2) := (blk_cell BK352.out 2).trans rfl
                have hcz21_3 : wr.cell? ⟨gb352, 3, none⟩ = some (.slice A0_3 l0_3.length c0_3) := (blk_cell BK352.out 3).trans rfl
                have hfz21_0 := blk_frozen BK352.out 0
                have hfz21_1 := blk_frozen BK352.out 1
                have hfz21_2 := blk_frozen BK352.out 2
                have hfz21_3 := blk_frozen BK352.out 3
                go_wp2
                go_meet
                case rel => exact ⟨_, (false), (by first | rfl | (simp; done) | (simp [*]; done)), H', ⟨by have := HK1.out; first | omega | exact Nat.le_refl _⟩, ⟨by (with_reducible repeat (first | apply Kd.R_alloc | apply Kd.R_drewN | apply Kd.R_drew)); exact HO_5.out⟩, ⟨by (with_reducible repeat (first | apply Kd.R_alloc | apply Kd.R_drewN | apply Kd.R_drew)); exact HO_6.out⟩, ⟨by (with_reducible repeat (first | apply Kd.Q_alloc | apply Kd.Q_drewN | apply Kd.Q_drew)); exact HO_365000.out⟩, ⟨by (with_reducible repeat (first | apply Kd.Q_alloc | apply Kd.Q_drewN | apply Kd.Q_drew)); exact HO_365001.out⟩, ⟨by (with_reducible repeat (first | apply Kd.Q_alloc | apply Kd.Q_drewN | apply Kd.Q_drew)); exact HO_365002.out⟩, ⟨by (with_reducible repeat (first | refine blk_drewN ?_ _ | refine blk_drew ?_ | refine blk_alloc ?_ _)); exact BK352.out⟩, ⟨by repeat (first | (with_reducible first | exact HI364.out | apply IsS55.alloc | apply IsS55.drewN | apply IsS55.drew | apply IsS55.set_0 | apply IsS55.set_1 | apply IsS55.set_2 | refine IsS55.far ?_ NB364_352.out _) | exact HI364.out)⟩, ⟨by repeat (first | (with_reducible first | exact HB.out | apply below_alloc | apply pw_below_drewN | apply below_drew1 | refine below_set ?_ (IsS55.ge HI364.out) | refine below_set ?_ GE352.out) | exact HB.out)⟩⟩
            case rest =>
              clear HC16
              try clear c1
              try clear c2
              try clear p2
              try clear c3
              try clear c5
              try clear c6
              try clear c7
              try clear c8
              try clear c10
              try clear c10b0
              try clear c10b1
              try clear c17
              try clear c17b0
              try clear c18
              try clear c20
              try clear hcz12_0
              try clear hcz12_1
              try clear hcz12_2
              try clear hcz12_3
              try clear hcz14_0
              try clear hcz14_1
              try clear hcz14_2
              try clear hcz14_3
              try clear hcz19_0
              try clear hcz19_1
              try clear hcz19_2
              try clear hcz19_3
              try clear hcz21_0
              try clear hcz21_1
              try clear hcz21_2
              try clear hcz21_3
              try clear hcz5_0
              try clear hcz5_1
              try clear hcz5_2
              try clear hcz5_3
              try clear hfz12_0
              try clear hfz12_1
              try clear hfz12_2
              try clear hfz12_3
              try clear hfz14_0
              try clear hfz14_1
              try clear hfz14_2
              try clear hfz14_3
              try clear hfz19_0
              try clear hfz19_1
              try clear hfz19_2
              try clear hfz19_3
              try clear hfz21_0
              try clear hfz21_1
              try clear hfz21_2
              try clear hfz21_3
              try clear hfz5_0
              try clear hfz5_1
              try clear hfz5_2
              try clear hfz5_3
              try clear p2
              obtain ⟨kq, x41_15, rfl, HA, HJ15, HO_5, HO_6, HO_365000, HO_365001, HO_365002, BK352, HI364, HB⟩ := hcut
              cases kq with
              | zero => exact absurd HA.out (by simp [gangwaylaw23_FeedParts.j1])
              | succ kj15 =>
                have H := HA.out
                clear HA
                simp only [gangwaylaw23_FeedParts.j1] at H
                by_cases c22 : x41_15 = true
                · subst c22
                  have H1 : (if 0 ≤ x8_1 then (if x8_1 < (l0_3.length : Int) then ((gangwaylaw0_Within.f ((rd_T45 l0_3 x8_1).f1) 50).bind fun t368 => ((feed_Feed_Stdin.f x365000_1 x365001_1 x365002_1 t368).bind fun bt369 => ((feed_Feed_Random.f bt369.2.2.1 bt369.2.2.2.1 bt369.2.2.2.2 t368).bind fun bt382 => ((feed_Feed_Clock.f bt382.2.2.1 bt382.2.2.2.1 bt382.2.2.2.2).bind fun bt395 => ((gangwaylaw23_num.f bt369.2.1).bind fun t405 => (if t405 = 0 then ((gangwaylaw23_num.f bt382.2.1).bind fun t406 => (if t406 = 0 then (if (bt382.1.length : Int) = t368 then (if (bt369.1.length : Int) > t368 then (none) else (if bt395.1 < x7_1 then (none) else (if x5_1.length + bt369.1.length < 140737488355328 then (if x6_1.length + bt382.1.length < 140737488355328 then (gangwaylaw23_FeedParts.l0 kj15 (x5_1 ++ bt369.1) (x6_1 ++ bt382.1) bt395.1 (wrap64 (x8_1 + 1)) l0_0 l0_1 l0_2 l0_3 bt395.2.1 bt395.2.2.1 bt395.2.2.2) else (none)) else (none)))) else (none)) else (none))) else (none))))))) else (none)) else (none)) = some r := by rw [if_pos rfl] at H; exact H
                  clear H
                  have H := H1
                  clear H1
                  by_cases c23 : 0 ≤ x8_1
                  · rw [if_pos c23] at H
                    have c23b0 : decide (0 ≤ x8_1) = true := decide_eq_true c23
                    clear c23
                    by_cases c24 : x8_1 < (l0_3.length : Int)
                    · rw [if_pos c24] at H
                      have c24b0 : decide (x8_1 < (l0_3.length : Int)) = true := decide_eq_true c24
                      clear c24
                      replace H := Option.bind_eq_some_iff.mp H
                      obtain ⟨t368, A250, H⟩ := H
                      replace H : ((feed_Feed_Stdin.f x365000_1 x365001_1 x365002_1 t368).bind fun bt369 => ((feed_Feed_Random.f bt369.2.2.1 bt369.2.2.2.1 bt369.2.2.2.2 t368).bind fun bt382 => ((feed_Feed_Clock.f bt382.2.2.1 bt382.2.2.2.1 bt382.2.2.2.2).bind fun bt395 => ((gangwaylaw23_num.f bt369.2.1).bind fun t405 => (if t405 = 0 then ((gangwaylaw23_num.f bt382.2.1).bind fun t406 => (if t406 = 0 then (if (bt382.1.length : Int) = t368 then (if (bt369.1.length : Int) > t368 then (none) else (if bt395.1 < x7_1 then (none) else (if x5_1.length + bt369.1.length < 140737488355328 then (if x6_1.length + bt382.1.length < 140737488355328 then (gangwaylaw23_FeedParts.l0 kj15 (x5_1 ++ bt369.1) (x6_1 ++ bt382.1) bt395.1 (wrap64 (x8_1 + 1)) l0_0 l0_1 l0_2 l0_3 bt395.2.1 bt395.2.2.1 bt395.2.2.2) else (none)) else (none)))) else (none)) else (none))) else (none)))))) = some r := H
                      have A25 := Aside0.mk A250
                      clear A250
                      replace H := Option.bind_eq_some_iff.mp H
                      obtain ⟨⟨t369, t372, t373, t376, t379⟩, A260, H⟩ := H
                      replace H : ((feed_Feed_Random.f t373 t376 t379 t368).bind fun bt382 => ((feed_Feed_Clock.f bt382.2.2.1 bt382.2.2.2.1 bt382.2.2.2.2).bind fun bt395 => ((gangwaylaw23_num.f t372).bind fun t405 => (if t405 = 0 then ((gangwaylaw23_num.f bt382.2.1).bind fun t406 => (if t406 = 0 then (if (bt382.1.length : Int) = t368 then (if (t369.length : Int) > t368 then (none) else (if bt395.1 < x7_1 then (none) else (if x5_1.length + t369.length < 140737488355328 then (if x6_1.length + bt382.1.length < 140737488355328 then (gangwaylaw23_FeedParts.l0 kj15 (x5_1 ++ t369) (x6_1 ++ bt382.1) bt395.1 (wrap64 (x8_1 + 1)) l0_0 l0_1 l0_2 l0_3 bt395.2.1 bt395.2.2.1 bt395.2.2.2) else (none)) else (none)))) else (none)) else (none))) else (none))))) = some r := H
                      have A26 := Aside0.mk A260
                      clear A260
                      replace H := Option.bind_eq_some_iff.mp H
                      obtain ⟨⟨t382, t385, t386, t389, t392⟩, A270, H⟩ := H
                      replace H : ((feed_Feed_Clock.f t386 t389 t392).bind fun bt395 => ((gangwaylaw23_num.f t372).bind fun t405 => (if t405 = 0 then ((gangwaylaw23_num.f t385).bind fun t406 => (if t406 = 0 then (if (t382.length : Int) = t368 then (if (t369.length : Int) > t368 then (none) else (if bt395.1 < x7_1 then (none) else (if x5_1.length + t369.length < 140737488355328 then (if x6_1.length + t382.length < 140737488355328 then (gangwaylaw23_FeedParts.l0 kj15 (x5_1 ++ t369) (x6_1 ++ t382) bt395.1 (wrap64 (x8_1 + 1)) l0_0 l0_1 l0_2 l0_3 bt395.2.1 bt395.2.2.1 bt395.2.2.2) else (none)) else (none)))) else (none)) else (none))) else (none)))) = some r := H
                      have A27 := Aside0.mk A270
                      clear A270
                      replace H := Option.bind_eq_some_iff.mp H
                      obtain ⟨⟨t395, t396, t399, t402⟩, A280, H⟩ := H
                      replace H : ((gangwaylaw23_num.f t372).bind fun t405 => (if t405 = 0 then ((gangwaylaw23_num.f t385).bind fun t406 => (if t406 = 0 then (if (t382.length : Int) = t368 then (if (t369.length : Int) > t368 then (none) else (if t395 < x7_1 then (none) else (if x5_1.length + t369.length < 140737488355328 then (if x6_1.length + t382.length < 140737488355328 then (gangwaylaw23_FeedParts.l0 kj15 (x5_1 ++ t369) (x6_1 ++ t382) t395 (wrap64 (x8_1 + 1)) l0_0 l0_1 l0_2 l0_3 t396 t399 t402) else (none)) else (none)))) else (none)) else (none))) else (none))) = some r := H
                      have A28 := Aside0.mk A280
                      clear A280
                      replace H := Option.bind_eq_some_iff.mp H
                      obtain ⟨t405, A290, H⟩ := H
                      replace H : (if t405 = 0 then ((gangwaylaw23_num.f t385).bind fun t406 => (if t406 = 0 then (if (t382.length : Int) = t368 then (if (t369.length : Int) > t368 then (none) else (if t395 < x7_1 then (none) else (if x5_1.length + t369.length < 140737488355328 then (if x6_1.length + t382.length < 140737488355328 then (gangwaylaw23_FeedParts.l0 kj15 (x5_1 ++ t369) (x6_1 ++ t382) t395 (wrap64 (x8_1 + 1)) l0_0 l0_1 l0_2 l0_3 t396 t399 t402) else (none)) else (none)))) else (none)) else (none))) else (none)) = some r := H
                      have A29 := Aside0.mk A290
                      clear A290
                      by_cases c30 : t405 = 0
                      · rw [if_pos c30] at H
                        have c30b0 : (t405 == 0) = true := beq_iff_eq.mpr c30
                        have c30b1 : (t405 != 0) = false := bne_eq_false_iff_eq.mpr c30
                        clear c30
                        replace H := Option.bind_eq_some_iff.mp H
                        obtain ⟨t406, A310, H⟩ := H
                        replace H : (if t406 = 0 then (if (t382.length : Int) = t368 then (if (t369.length : Int) > t368 then (none) else (if t395 < x7_1 then (none) else (if x5_1.length + t369.length < 140737488355328 then (if x6_1.length + t382.length < 140737488355328 then (gangwaylaw23_FeedParts.l0 kj15 (x5_1 ++ t369) (x6_1 ++ t382) t395 (wrap64 (x8_1 + 1)) l0_0 l0_1 l0_2 l0_3 t396 t399 t402) else (none)) else (none)))) else (none)) else (none)) = some r := H
                        have A31 := Aside0.mk A310
                        clear A310
                        by_cases c32 : t406 = 0
                        · rw [if_pos c32] at H
                          have c32b0 : (t406 == 0) = true := beq_iff_eq.mpr c32
                          have c32b1 : (t406 != 0) = false := bne_eq_false_iff_eq.mpr c32
                          clear c32
                          by_cases c33 : (t382.length : Int) = t368
                          · rw [if_pos c33] at H
                            have c33b0 : ((t382.length : Int) == t368) = true := beq_iff_eq.mpr c33
                            have c33b1 : ((t382.length : Int) != t368) = false := bne_eq_false_iff_eq.mpr c33
                            clear c33
                            by_cases c34 : (t369.length : Int) > t368
                            · rw [if_pos c34] at H
                              exact absurd H (by simp)
                            · rw [if_neg c34] at H
                              have c34b0 : decide (t368 < (t369.length : Int)) = false := decide_eq_false c34
                              clear c34
                              by_cases c35 : t395 < x7_1
                              · rw [if_pos c35] at H
                                exact absurd H (by simp)
                              · rw [if_neg c35] at H
                                have c35b0 : decide (t395 < x7_1) = false := decide_eq_false c35
                                clear c35
                                by_cases c36 : x5_1.length + t369.length < 140737488355328
                                · rw [if_pos c36] at H
                                  have LMc36 := Aside0.mk c36
                                  clear c36
                                  obtain ⟨y407, hy407⟩ : ∃ y_ : List Int, y_ = (x5_1 ++ t369) := ⟨_, rfl⟩
                                  replace H : (if x6_1.length + t382.length < 140737488355328 then (gangwaylaw23_FeedParts.l0 kj15 y407 (x6_1 ++ t382) t395 (wrap64 (x8_1 + 1)) l0_0 l0_1 l0_2 l0_3 t396 t399 t402) else (none)) = some r := by first | (rw [hy407]; with_reducible exact H) | (have H2_ := (Option.bind_some _ _).symm.trans H; rw [hy407]; with_reducible exact H2_) | (have H2_ := (Option.bind_some _ _).symm.trans H; with_reducible exact H2_) | with_reducible exact H | (rw [hy407]; exact H) | exact H
                                  have Ny407 := Aside0.mk hy407
                                  clear hy407
                                  by_cases c37 : x6_1.length + t382.length < 140737488355328
                                  · rw [if_pos c37] at H
                                    have LMc37 := Aside0.mk c37
                                    clear c37
                                    obtain ⟨y410, hy410⟩ : ∃ y_ : List Int, y_ = (x6_1 ++ t382) := ⟨_, rfl⟩
                                    replace H : (gangwaylaw23_FeedParts.l0 kj15 y407 y410 t395 (wrap64 (x8_1 + 1)) l0_0 l0_1 l0_2 l0_3 t396 t399 t402) = some r := by first | (rw [hy410]; with_reducible exact H) | (have H2_ := (Option.bind_some _ _).symm.trans H; rw [hy410]; with_reducible exact H2_) | (have H2_ := (Option.bind_some _ _).symm.trans H; with_reducible exact H2_) | with_reducible exact H | (rw [hy410]; exact H) | exact H
                                    have Ny410 := Aside0.mk hy410
                                    clear hy410
                                    have H' := Aside0.mk H
                                    clear H
                                    have hnb38 := NB352_364.out
                                    have hnc38 := NB364_352.out
                                    have hcz39_0 : wc.cell? ⟨gb352, 0, none⟩ = some (.slice A0_0 l0_0.length c0_0) := (blk_cell BK352.out 0).trans rfl
                                    have hcz39_1 : wc.cell? ⟨gb352, 1, none⟩ = some (.slice A0_1 l0_1.length c0_1) := (blk_cell BK352.out 1).trans rfl
                                    have hcz39_2 : wc.cell? ⟨gb352, 2, none⟩ = some (.slice A0_2 l0_2.length c0_2) := (blk_cell BK352.out 2).trans rfl
                                    have hcz39_3 : wc.cell? ⟨gb352, 3, none⟩ = some (.slice A0_3 l0_3.length c0_3) := (blk_cell BK352.out 3).trans rfl
                                    have hfz39_0 := blk_frozen BK352.out 0
                                    have hfz39_1 := blk_frozen BK352.out 1
                                    have hfz39_2 := blk_frozen BK352.out 2
                                    have hfz39_3 := blk_frozen BK352.out 3
                                    have p367 : 0 ≤ (x8_1 : Int) := of_decide_eq_true (by first | (with_reducible assumption) | assumption)
                                    have q367 : x8_1 < (l0_3.length : Int) := of_decide_eq_true (by first | (with_reducible assumption) | assumption)
                                    obtain ⟨ad367, e367, hx367_0, hx367_1⟩ := at_T45 HR0_3.out x8_1 p367 q367
                                    cases e367
                                    replace hx367_0 := (HB.out.cell (World.block_lt_of_cell? w _ hx367_0)).trans hx367_0
                                    replace hx367_1 := (HB.out.cell (World.block_lt_of_cell? w _ hx367_1)).trans hx367_1
                                    replace p367 := eq_true p367
                                    replace q367 := eq_true q367
                                    go_wp2_with (first | ((with_reducible refine gate_callee (f := 15) rfl ?_); refine goesL_ (some 50) rfl rfl Try.func15 (by kernel_rfl) rfl #[.int .i64 ((rd_T45 l0_3 x8_1).f1), .int .i64 50] rfl (by (try simp only [List.map_toArray, List.map_cons, List.map_nil]); first | done | rfl | (simp only [List.length_drop, List.length_take]; rfl)) ?_; (with_reducible refine (gangwaylaw0_Within.calls ((rd_T45 l0_3 x8_1).f1) 50 t368 _ A25.out).mono ?_); rintro e w' ⟨rfl, ⟨nd, rfl⟩⟩; refine ⟨_, rfl, ?_⟩) | ((with_reducible refine gate_callee (f := 22) rfl ?_); refine goesL_ (some 54) rfl rfl Try.func22 (by kernel_rfl) rfl #[.pointer (some ⟨g364, 0, none⟩), .int .i64 t368] rfl (by (try simp only [List.map_toArray, List.map_cons, List.map_nil]); first | done | rfl | (simp only [List.length_drop, List.length_take]; rfl)) ?_; (with_reducible refine (feed_Feed_Stdin.calls g364 (fun k_ => some k_ = (u365000 : Value).ownBlock) u365000 x365000_1 (fun k_ => some k_ = (u365001 : Value).ownBlock) u365001 x365001_1 (fun k_ => some k_ = (u365002 : Value).ownBlock) u365002 x365002_1 t368 t369 t372 t373 t376 t379 w _ ?side1 ?side2 ?side3 ?side4 ?side5 ?side6 ?side7 A26.out).mono ?_); (case side1 => repeat (first | (with_reducible first | exact HI364.out | apply IsS55.alloc | apply IsS55.drewN | apply IsS55.drew | apply IsS55.set_0 | apply IsS55.set_1 | apply IsS55.set_2 | refine IsS55.far ?_ NB364_352.out _) | exact HI364.out)); (case side2 => repeat (first | (with_reducible first | exact HB.out | apply below_alloc | apply pw_below_drewN | apply below_drew1 | refine below_set ?_ (IsS55.ge HI364.out) | refine below_set ?_ GE352.out) | exact HB.out)); (case side3 => exact Kd.Q_tight rfl HO_365000.out); (case side4 => exact Kd.Q_tight rfl HO_365001.out); (case side5 => exact fun k_ e_ => (HO_365001.out.1 k_ e_.symm).2.2); (case side6 => exact Kd.Q_tight rfl HO_365002.out); (case side7 => exact fun k_ e_ => (HO_365002.out.1 k_ e_.symm).2.2); rintro e w40 ⟨v370, v374, v377, v380, rfl, ho0, ho1, ho2, ho3, hi, hb, hkp⟩; refine ⟨_, rfl, ?_⟩; have n0_ := Aside0.mk (Kd.R_mono (ok' := fun k_ => some k_ ≠ (u6 : Value).ownBlock ∧ some k_ ≠ (v370 : Value).ownBlock ∧ some k_ ≠ (v377 : Value).ownBlock ∧ some k_ ≠ (v380 : Value).ownBlock) (Kd.R_keptB ((IsS55.apart HI364.out (Kd.R_apart' HO_5.out (Kd.Q_typed HO_365000.out) (by decide)) (by decide))) hkp (fun k_ hk_ hs_ => Or.elim hs_ (fun hs_ => Or.elim hs_ (fun e_ => (hk_.1.2) e_) (fun e_ => Or.elim e_ (fun e_ => (hk_.1.1.2.1) e_) (fun e_ => (hk_.1.1.2.2) e_))) (fun e_ => (hk_.2) e_))) (fun k_ hk_ => ⟨hk_.1.1.1.1, fun e_ => Or.elim (ho0.1 k_ e_.symm).1 (fun hs_ => hk_.2.1 (.inl hs_)) (fun hn_ => Nat.not_le.2 hk_.2.2 hn_), fun e_ => Or.elim (ho2.1 k_ e_.symm).1 (fun hs_ => hk_.2.1 (.inl hs_)) (fun hn_ => Nat.not_le.2 hk_.2.2 hn_), fun e_ => Or.elim (ho3.1 k_ e_.symm).1 (fun hs_ => hk_.2.1 (.inl hs_)) (fun hn_ => Nat.not_le.2 hk_.2.2 hn_)⟩)); have n1_ := Aside0.mk (Kd.R_mono (ok' := fun k_ => some k_ ≠ (u5 : Value).ownBlock ∧ some k_ ≠ (v370 : Value).ownBlock ∧ some k_ ≠ (v377 : Value).ownBlock ∧ some k_ ≠ (v380 : Value).ownBlock) (Kd.R_keptB ((IsS55.apart HI364.out (Kd.R_apart' HO_6.out (Kd.Q_typed HO_365000.out) (by decide)) (by decide))) hkp (fun k_ hk_ hs_ => Or.elim hs_ (fun hs_ => Or.elim hs_ (fun e_ => (hk_.1.2) e_) (fun e_ => Or.elim e_ (fun e_ => (hk_.1.1.2.1) e_) (fun e_ => (hk_.1.1.2.2) e_))) (fun e_ => (hk_.2) e_))) (fun k_ hk_ => ⟨hk_.1.1.1.1, fun e_ => Or.elim (ho0.1 k_ e_.symm).1 (fun hs_ => hk_.2.1 (.inl hs_)) (fun hn_ => Nat.not_le.2 hk_.2.2 hn_), fun e_ => Or.elim (ho2.1 k_ e_.symm).1 (fun hs_ => hk_.2.1 (.inl hs_)) (fun hn_ => Nat.not_le.2 hk_.2.2 hn_), fun e_ => Or.elim (ho3.1 k_ e_.symm).1 (fun hs_ => hk_.2.1 (.inl hs_)) (fun hn_ => Nat.not_le.2 hk_.2.2 hn_)⟩)); have n2_ := Aside0.mk (blk_kept (o := .cells #[.slice A0_0 l0_0.length c0_0, .slice A0_1 l0_1.length c0_1, .slice A0_2 l0_2.length c0_2, .slice (some ad367) l0_3.length c0_3] 28 (0, 0)) (by (with_reducible repeat (first | refine blk_drewN ?_ _ | refine blk_drew ?_ | refine blk_alloc ?_ _)); exact BK352.out) hkp (fun hs_ => Or.elim hs_ (fun hs_ => Or.elim hs_ (fun e_ => (fun e_ => (Kd.Q_ne HO_365000.out BK352.out (by decide)) e_) e_) (fun e_ => Or.elim e_ (fun e_ => (fun e_ => (Kd.Q_ne HO_365001.out BK352.out (by decide)) e_) e_) (fun e_ => (fun e_ => (Kd.Q_ne HO_365002.out BK352.out (by decide)) e_) e_))) (fun e_ => NB352_364.out e_))); have n3_ := Aside0.mk (hi); have n4_ := Aside0.mk (Kd.R_mono (ok' := fun k_ => some k_ ≠ (v377 : Value).ownBlock ∧ some k_ ≠ (v380 : Value).ownBlock ∧ some k_ ≠ (u5 : Value).ownBlock ∧ some k_ ≠ (u6 : Value).ownBlock) ho0 (fun k_ hk_ => ⟨hk_.2.1, hk_.2.2, Or.elim hk_.1 (fun hs_ => Or.elim hs_ (fun hs_ => fun e_ => ((((IsS55.apart HI364.out (Kd.R_apart' HO_5.out (Kd.Q_typed HO_365000.out) (by decide)) (by decide))).1 k_ e_.symm).1.2) hs_) (fun hs_ => Or.elim hs_ (fun hs_ => fun e_ => ((((IsS55.apart HI364.out (Kd.R_apart' HO_5.out (Kd.Q_typed HO_365000.out) (by decide)) (by decide))).1 k_ e_.symm).1.1.2.1) hs_) (fun hs_ => fun e_ => ((((IsS55.apart HI364.out (Kd.R_apart' HO_5.out (Kd.Q_typed HO_365000.out) (by decide)) (by decide))).1 k_ e_.symm).1.1.2.2) hs_))) (fun hn_ => (Kd.fresh' (Kd.R_lt (by (with_reducible repeat (first | apply Kd.R_alloc | apply Kd.R_drewN | apply Kd.R_drew)); exact HO_5.out)) k_ hn_)), Or.elim hk_.1 (fun hs_ => Or.elim hs_ (fun hs_ => fun e_ => ((((IsS55.apart HI364.out (Kd.R_apart' HO_6.out (Kd.Q_typed HO_365000.out) (by decide)) (by decide))).1 k_ e_.symm).1.2) hs_) (fun hs_ => Or.elim hs_ (fun hs_ => fun e_ => ((((IsS55.apart HI364.out (Kd.R_apart' HO_6.out (Kd.Q_typed HO_365000.out) (by decide)) (by decide))).1 k_ e_.symm).1.1.2.1) hs_) (fun hs_ => fun e_ => ((((IsS55.apart HI364.out (Kd.R_apart' HO_6.out (Kd.Q_typed HO_365000.out) (by decide)) (by decide))).1 k_ e_.symm).1.1.2.2) hs_))) (fun hn_ => (Kd.fresh' (Kd.R_lt (by (with_reducible repeat (first | apply Kd.R_alloc | apply Kd.R_drewN | apply Kd.R_drew)); exact HO_6.out)) k_ hn_))⟩)); have n5_ := Aside0.mk (Kd.Q_mono (ok' := fun k_ => True) ho1 (fun k_ hk_ => trivial)); have n6_ := Aside0.mk (Kd.Q_mono (ok' := fun k_ => some k_ ≠ (v370 : Value).ownBlock ∧ some k_ ≠ (v380 : Value).ownBlock ∧ some k_ ≠ (u5 : Value).ownBlock ∧ some k_ ≠ (u6 : Value).ownBlock) ho2 (fun k_ hk_ => ⟨hk_.2.1, hk_.2.2, Or.elim hk_.1 (fun hs_ => Or.elim hs_ (fun hs_ => fun e_ => ((((IsS55.apart HI364.out (Kd.R_apart' HO_5.out (Kd.Q_typed HO_365000.out) (by decide)) (by decide))).1 k_ e_.symm).1.2) hs_) (fun hs_ => Or.elim hs_ (fun hs_ => fun e_ => ((((IsS55.apart HI364.out (Kd.R_apart' HO_5.out (Kd.Q_typed HO_365000.out) (by decide)) (by decide))).1 k_ e_.symm).1.1.2.1) hs_) (fun hs_ => fun e_ => ((((IsS55.apart HI364.out (Kd.R_apart' HO_5.out (Kd.Q_typed HO_365000.out) (by decide)) (by decide))).1 k_ e_.symm).1.1.2.2) hs_))) (fun hn_ => (Kd.fresh' (Kd.R_lt (by (with_reducible repeat (first | apply Kd.R_alloc | apply Kd.R_drewN | apply Kd.R_drew)); exact HO_5.out)) k_ hn_)), Or.elim hk_.1 (fun hs_ => Or.elim hs_ (fun hs_ => fun e_ => ((((IsS55.apart HI364.out (Kd.R_apart' HO_6.out (Kd.Q_typed HO_365000.out) (by decide)) (by decide))).1 k_ e_.symm).1.2) hs_) (fun hs_ => Or.elim hs_ (fun hs_ => fun e_ => ((((IsS55.apart HI364.out (Kd.R_apart' HO_6.out (Kd.Q_typed HO_365000.out) (by decide)) (by decide))).1 k_ e_.symm).1.1.2.1) hs_) (fun hs_ => fun e_ => ((((IsS55.apart HI364.out (Kd.R_apart' HO_6.out (Kd.Q_typed HO_365000.out) (by decide)) (by decide))).1 k_ e_.symm).1.1.2.2) hs_))) (fun hn_ => (Kd.fresh' (Kd.R_lt (by (with_reducible repeat (first | apply Kd.R_alloc | apply Kd.R_drewN | apply Kd.R_drew)); exact HO_6.out)) k_ hn_))⟩)); have n7_ := Aside0.mk (Kd.Q_mono (ok' := fun k_ => some k_ ≠ (v370 : Value).ownBlock ∧ some k_ ≠ (v377 : Value).ownBlock ∧ some k_ ≠ (u5 : Value).ownBlock ∧ some k_ ≠ (u6 : Value).ownBlock) ho3 (fun k_ hk_ => ⟨hk_.2.1, hk_.2.2, Or.elim hk_.1 (fun hs_ => Or.elim hs_ (fun hs_ => fun e_ => ((((IsS55.apart HI364.out (Kd.R_apart' HO_5.out (Kd.Q_typed HO_365000.out) (by decide)) (by decide))).1 k_ e_.symm).1.2) hs_) (fun hs_ => Or.elim hs_ (fun hs_ => fun e_ => ((((IsS55.apart HI364.out (Kd.R_apart' HO_5.out (Kd.Q_typed HO_365000.out) (by decide)) (by decide))).1 k_ e_.symm).1.1.2.1) hs_) (fun hs_ => fun e_ => ((((IsS55.apart HI364.out (Kd.R_apart' HO_5.out (Kd.Q_typed HO_365000.out) (by decide)) (by decide))).1 k_ e_.symm).1.1.2.2) hs_))) (fun hn_ => (Kd.fresh' (Kd.R_lt (by (with_reducible repeat (first | apply Kd.R_alloc | apply Kd.R_drewN | apply Kd.R_drew)); exact HO_5.out)) k_ hn_)), Or.elim hk_.1 (fun hs_ => Or.elim hs_ (fun hs_ => fun e_ => ((((IsS55.apart HI364.out (Kd.R_apart' HO_6.out (Kd.Q_typed HO_365000.out) (by decide)) (by decide))).1 k_ e_.symm).1.2) hs_) (fun hs_ => Or.elim hs_ (fun hs_ => fun e_ => ((((IsS55.apart HI364.out (Kd.R_apart' HO_6.out (Kd.Q_typed HO_365000.out) (by decide)) (by decide))).1 k_ e_.symm).1.1.2.1) hs_) (fun hs_ => fun e_ => ((((IsS55.apart HI364.out (Kd.R_apart' HO_6.out (Kd.Q_typed HO_365000.out) (by decide)) (by decide))).1 k_ e_.symm).1.1.2.2) hs_))) (fun hn_ => (Kd.fresh' (Kd.R_lt (by (with_reducible repeat (first | apply Kd.R_alloc | apply Kd.R_drewN | apply Kd.R_drew)); exact HO_6.out)) k_ hn_))⟩)); have n8_ := Aside0.mk (hb); clear HO_5; clear HO_6; clear BK352; clear HI364; clear HB; clear HO_365000; clear HO_365001; clear HO_365002; have HO_5 := n0_; have HO_6 := n1_; have BK352 := n2_; have HI364 := n3_; have HO371 := n4_; have HO375 := n5_; have HO378 := n6_; have HO381 := n7_; have HB := n8_; clear n0_ n1_ n2_ n3_ n4_ n5_ n6_ n7_ n8_; (try clear hb); (try clear hkp); (try clear ho0); (try clear ho1); (try clear ho2); (try clear ho3)) | ((with_reducible refine gate_callee (f := 19) rfl ?_); refine goesL_ (some 60) rfl rfl Try.func19 (by kernel_rfl) rfl #[.pointer (some ⟨g364, 0, none⟩), .int .i64 t368] rfl (by (try simp only [List.map_toArray, List.map_cons, List.map_nil]); first | done | rfl | (simp only [List.length_drop, List.length_take]; rfl)) ?_; (with_reducible refine (feed_Feed_Random.calls g364 (fun k_ => some k_ = (v374 : Value).ownBlock) v374 t373 (fun k_ => some k_ = (v377 : Value).ownBlock) v377 t376 (fun k_ => some k_ = (v380 : Value).ownBlock) v380 t379 t368 t382 t385 t386 t389 t392 w _ ?side1 ?side2 ?side3 ?side4 ?side5 ?side6 ?side7 A27.out).mono ?_); (case side1 => repeat (first | (with_reducible first | exact HI364.out | apply IsS55.alloc | apply IsS55.drewN | apply IsS55.drew | apply IsS55.set_0 | apply IsS55.set_1 | apply IsS55.set_2 | refine IsS55.far ?_ NB364_352.out _) | exact HI364.out)); (case side2 => repeat (first | (with_reducible first | exact HB.out | apply below_alloc | apply pw_below_drewN | apply below_drew1 | refine below_set ?_ (IsS55.ge HI364.out) | refine below_set ?_ GE352.out) | exact HB.out)); (case side3 => exact Kd.Q_tight rfl HO375.out); (case side4 => exact Kd.Q_tight rfl HO378.out); (case side5 => exact fun k_ e_ => (HO378.out.1 k_ e_.symm).2.1); (case side6 => exact Kd.Q_tight rfl HO381.out); (case side7 => exact fun k_ e_ => (HO381.out.1 k_ e_.symm).2.1); rintro e w41 ⟨v383, v387, v390, v393, rfl, ho0, ho1, ho2, ho3, hi, hb, hkp⟩; refine ⟨_, rfl, ?_⟩; have n0_ := Aside0.mk (Kd.R_mono (ok' := fun k_ => some k_ ≠ (u6 : Value).ownBlock ∧ some k_ ≠ (v370 : Value).ownBlock ∧ some k_ ≠ (v383 : Value).ownBlock ∧ some k_ ≠ (v390 : Value).ownBlock ∧ some k_ ≠ (v393 : Value).ownBlock) (Kd.R_keptB ((IsS55.apart HI364.out (Kd.R_apart' HO_5.out (Kd.Q_typed HO375.out) (by decide)) (by decide))) hkp (fun k_ hk_ hs_ => Or.elim hs_ (fun hs_ => Or.elim hs_ (fun e_ => (hk_.1.2) e_) (fun e_ => Or.elim e_ (fun e_ => (hk_.1.1.2.2.1) e_) (fun e_ => (hk_.1.1.2.2.2) e_))) (fun e_ => (hk_.2) e_))) (fun k_ hk_ => ⟨hk_.1.1.1.1, hk_.1.1.1.2.1, fun e_ => Or.elim (ho0.1 k_ e_.symm).1 (fun hs_ => hk_.2.1 (.inl hs_)) (fun hn_ => Nat.not_le.2 hk_.2.2 hn_), fun e_ => Or.elim (ho2.1 k_ e_.symm).1 (fun hs_ => hk_.2.1 (.inl hs_)) (fun hn_ => Nat.not_le.2 hk_.2.2 hn_), fun e_ => Or.elim (ho3.1 k_ e_.symm).1 (fun hs_ => hk_.2.1 (.inl hs_)) (fun hn_ => Nat.not_le.2 hk_.2.2 hn_)⟩)); have n1_ := Aside0.mk (Kd.R_mono (ok' := fun k_ => some k_ ≠ (u5 : Value).ownBlock ∧ some k_ ≠ (v370 : Value).ownBlock ∧ some k_ ≠ (v383 : Value).ownBlock ∧ some k_ ≠ (v390 : Value).ownBlock ∧ some k_ ≠ (v393 : Value).ownBlock) (Kd.R_keptB ((IsS55.apart HI364.out (Kd.R_apart' HO_6.out (Kd.Q_typed HO375.out) (by decide)) (by decide))) hkp (fun k_ hk_ hs_ => Or.elim hs_ (fun hs_ => Or.elim hs_ (fun e_ => (hk_.1.2) e_) (fun e_ => Or.elim e_ (fun e_ => (hk_.1.1.2.2.1) e_) (fun e_ => (hk_.1.1.2.2.2) e_))) (fun e_ => (hk_.2) e_))) (fun k_ hk_ => ⟨hk_.1.1.1.1, hk_.1.1.1.2.1, fun e_ => Or.elim (ho0.1 k_ e_.symm).1 (fun hs_ => hk_.2.1 (.inl hs_)) (fun hn_ => Nat.not_le.2 hk_.2.2 hn_), fun e_ => Or.elim (ho2.1 k_ e_.symm).1 (fun hs_ => hk_.2.1 (.inl hs_)) (fun hn_ => Nat.not_le.2 hk_.2.2 hn_), fun e_ => Or.elim (ho3.1 k_ e_.symm).1 (fun hs_ => hk_.2.1 (.inl hs_)) (fun hn_ => Nat.not_le.2 hk_.2.2 hn_)⟩)); have n2_ := Aside0.mk (blk_kept (o := .cells #[.slice A0_0 l0_0.length c0_0, .slice A0_1 l0_1.length c0_1, .slice A0_2 l0_2.length c0_2, .slice (some ad367) l0_3.length c0_3] 28 (0, 0)) (by (with_reducible repeat (first | refine blk_drewN ?_ _ | refine blk_drew ?_ | refine blk_alloc ?_ _)); exact BK352.out) hkp (fun hs_ => Or.elim hs_ (fun hs_ => Or.elim hs_ (fun e_ => (fun e_ => (Kd.Q_ne HO375.out BK352.out (by decide)) e_) e_) (fun e_ => Or.elim e_ (fun e_ => (fun e_ => (Kd.Q_ne HO378.out BK352.out (by decide)) e_) e_) (fun e_ => (fun e_ => (Kd.Q_ne HO381.out BK352.out (by decide)) e_) e_))) (fun e_ => NB352_364.out e_))); have n3_ := Aside0.mk (hi); have n4_ := Aside0.mk (Kd.R_mono (ok' := fun k_ => some k_ ≠ (u5 : Value).ownBlock ∧ some k_ ≠ (u6 : Value).ownBlock ∧ some k_ ≠ (v383 : Value).ownBlock ∧ some k_ ≠ (v390 : Value).ownBlock ∧ some k_ ≠ (v393 : Value).ownBlock) (Kd.R_keptB ((IsS55.apart HI364.out (Kd.R_apart' HO371.out (Kd.Q_typed HO375.out) (by decide)) (by decide))) hkp (fun k_ hk_ hs_ => Or.elim hs_ (fun hs_ => Or.elim hs_ (fun e_ => (hk_.1.2) e_) (fun e_ => Or.elim e_ (fun e_ => (hk_.1.1.1) e_) (fun e_ => (hk_.1.1.2.1) e_))) (fun e_ => (hk_.2) e_))) (fun k_ hk_ => ⟨hk_.1.1.1.2.2.1, hk_.1.1.1.2.2.2, fun e_ => Or.elim (ho0.1 k_ e_.symm).1 (fun hs_ => hk_.2.1 (.inl hs_)) (fun hn_ => Nat.not_le.2 hk_.2.2 hn_), fun e_ => Or.elim (ho2.1 k_ e_.symm).1 (fun hs_ => hk_.2.1 (.inl hs_)) (fun hn_ => Nat.not_le.2 hk_.2.2 hn_), fun e_ => Or.elim (ho3.1 k_ e_.symm).1 (fun hs_ => hk_.2.1 (.inl hs_)) (fun hn_ => Nat.not_le.2 hk_.2.2 hn_)⟩)); have n5_ := Aside0.mk (Kd.R_mono (ok' := fun k_ => some k_ ≠ (v390 : Value).ownBlock ∧ some k_ ≠ (v393 : Value).ownBlock ∧ some k_ ≠ (u5 : Value).ownBlock ∧ some k_ ≠ (u6 : Value).ownBlock ∧ some k_ ≠ (v370 : Value).ownBlock) ho0 (fun k_ hk_ => ⟨hk_.2.1, hk_.2.2, Or.elim hk_.1 (fun hs_ => Or.elim hs_ (fun hs_ => fun e_ => ((((IsS55.apart HI364.out (Kd.R_apart' HO_5.out (Kd.Q_typed HO375.out) (by decide)) (by decide))).1 k_ e_.symm).1.2) hs_) (fun hs_ => Or.elim hs_ (fun hs_ => fun e_ => ((((IsS55.apart HI364.out (Kd.R_apart' HO_5.out (Kd.Q_typed HO375.out) (by decide)) (by decide))).1 k_ e_.symm).1.1.2.2.1) hs_) (fun hs_ => fun e_ => ((((IsS55.apart HI364.out (Kd.R_apart' HO_5.out (Kd.Q_typed HO375.out) (by decide)) (by decide))).1 k_ e_.symm).1.1.2.2.2) hs_))) (fun hn_ => (Kd.fresh' (Kd.R_lt (by (with_reducible repeat (first | apply Kd.R_alloc | apply Kd.R_drewN | apply Kd.R_drew)); exact HO_5.out)) k_ hn_)), Or.elim hk_.1 (fun hs_ => Or.elim hs_ (fun hs_ => fun e_ => ((((IsS55.apart HI364.out (Kd.R_apart' HO_6.out (Kd.Q_typed HO375.out) (by decide)) (by decide))).1 k_ e_.symm).1.2) hs_) (fun hs_ => Or.elim hs_ (fun hs_ => fun e_ => ((((IsS55.apart HI364.out (Kd.R_apart' HO_6.out (Kd.Q_typed HO375.out) (by decide)) (by decide))).1 k_ e_.symm).1.1.2.2.1) hs_) (fun hs_ => fun e_ => ((((IsS55.apart HI364.out (Kd.R_apart' HO_6.out (Kd.Q_typed HO375.out) (by decide)) (by decide))).1 k_ e_.symm).1.1.2.2.2) hs_))) (fun hn_ => (Kd.fresh' (Kd.R_lt (by (with_reducible repeat (first | apply Kd.R_alloc | apply Kd.R_drewN | apply Kd.R_drew)); exact HO_6.out)) k_ hn_)), Or.elim hk_.1 (fun hs_ => Or.elim hs_ (fun hs_ => fun e_ => ((((IsS55.apart HI364.out (Kd.R_apart' HO371.out (Kd.Q_typed HO375.out) (by decide)) (by decide))).1 k_ e_.symm).1.2) hs_) (fun hs_ => Or.elim hs_ (fun hs_ => fun e_ => ((((IsS55.apart HI364.out (Kd.R_apart' HO371.out (Kd.Q_typed HO375.out) (by decide)) (by decide))).1 k_ e_.symm).1.1.1) hs_) (fun hs_ => fun e_ => ((((IsS55.apart HI364.out (Kd.R_apart' HO371.out (Kd.Q_typed HO375.out) (by decide)) (by decide))).1 k_ e_.symm).1.1.2.1) hs_))) (fun hn_ => (Kd.fresh' (Kd.R_lt (by (with_reducible repeat (first | apply Kd.R_alloc | apply Kd.R_drewN | apply Kd.R_drew)); exact HO371.out)) k_ hn_))⟩)); have n6_ := Aside0.mk (Kd.Q_mono (ok' := fun k_ => True) ho1 (fun k_ hk_ => trivial)); have n7_ := Aside0.mk (Kd.Q_mono (ok' := fun k_ => some k_ ≠ (v383 : Value).ownBlock ∧ some k_ ≠ (v393 : Value).ownBlock ∧ some k_ ≠ (u5 : Value).ownBlock ∧ some k_ ≠ (u6 : Value).ownBlock ∧ some k_ ≠ (v370 : Value).ownBlock) ho2 (fun k_ hk_ => ⟨hk_.2.1, hk_.2.2, Or.elim hk_.1 (fun hs_ => Or.elim hs_ (fun hs_ => fun e_ => ((((IsS55.apart HI364.out (Kd.R_apart' HO_5.out (Kd.Q_typed HO375.out) (by decide)) (by decide))).1 k_ e_.symm).1.2) hs_) (fun hs_ => Or.elim hs_ (fun hs_ => fun e_ => ((((IsS55.apart HI364.out (Kd.R_apart' HO_5.out (Kd.Q_typed HO375.out) (by decide)) (by decide))).1 k_ e_.symm).1.1.2.2.1) hs_) (fun hs_ => fun e_ => ((((IsS55.apart HI364.out (Kd.R_apart' HO_5.out (Kd.Q_typed HO375.out) (by decide)) (by decide))).1 k_ e_.symm).1.1.2.2.2) hs_))) (fun hn_ => (Kd.fresh' (Kd.R_lt (by (with_reducible repeat (first | apply Kd.R_alloc | apply Kd.R_drewN | apply Kd.R_drew)); exact HO_5.out)) k_ hn_)), Or.elim hk_.1 (fun hs_ => Or.elim hs_ (fun hs_ => fun e_ => ((((IsS55.apart HI364.out (Kd.R_apart' HO_6.out (Kd.Q_typed HO375.out) (by decide)) (by decide))).1 k_ e_.symm).1.2) hs_) (fun hs_ => Or.elim hs_ (fun hs_ => fun e_ => ((((IsS55.apart HI364.out (Kd.R_apart' HO_6.out (Kd.Q_typed HO375.out) (by decide)) (by decide))).1 k_ e_.symm).1.1.2.2.1) hs_) (fun hs_ => fun e_ => ((((IsS55.apart HI364.out (Kd.R_apart' HO_6.out (Kd.Q_typed HO375.out) (by decide)) (by decide))).1 k_ e_.symm).1.1.2.2.2) hs_))) (fun hn_ => (Kd.fresh' (Kd.R_lt (by (with_reducible repeat (first | apply Kd.R_alloc | apply Kd.R_drewN | apply Kd.R_drew)); exact HO_6.out)) k_ hn_)), Or.elim hk_.1 (fun hs_ => Or.elim hs_ (fun hs_ => fun e_ => ((((IsS55.apart HI364.out (Kd.R_apart' HO371.out (Kd.Q_typed HO375.out) (by decide)) (by decide))).1 k_ e_.symm).1.2) hs_) (fun hs_ => Or.elim hs_ (fun hs_ => fun e_ => ((((IsS55.apart HI364.out (Kd.R_apart' HO371.out (Kd.Q_typed HO375.out) (by decide)) (by decide))).1 k_ e_.symm).1.1.1) hs_) (fun hs_ => fun e_ => ((((IsS55.apart HI364.out (Kd.R_apart' HO371.out (Kd.Q_typed HO375.out) (by decide)) (by decide))).1 k_ e_.symm).1.1.2.1) hs_))) (fun hn_ => (Kd.fresh' (Kd.R_lt (by (with_reducible repeat (first | apply Kd.R_alloc | apply Kd.R_drewN | apply Kd.R_drew)); exact HO371.out)) k_ hn_))⟩)); have n8_ := Aside0.mk (Kd.Q_mono (ok' := fun k_ => some k_ ≠ (v383 : Value).ownBlock ∧ some k_ ≠ (v390 : Value).ownBlock ∧ some k_ ≠ (u5 : Value).ownBlock ∧ some k_ ≠ (u6 : Value).ownBlock ∧ some k_ ≠ (v370 : Value).ownBlock) ho3 (fun k_ hk_ => ⟨hk_.2.1, hk_.2.2, Or.elim hk_.1 (fun hs_ => Or.elim hs_ (fun hs_ => fun e_ => ((((IsS55.apart HI364.out (Kd.R_apart' HO_5.out (Kd.Q_typed HO375.out) (by decide)) (by decide))).1 k_ e_.symm).1.2) hs_) (fun hs_ => Or.elim hs_ (fun hs_ => fun e_ => ((((IsS55.apart HI364.out (Kd.R_apart' HO_5.out (Kd.Q_typed HO375.out) (by decide)) (by decide))).1 k_ e_.symm).1.1.2.2.1) hs_) (fun hs_ => fun e_ => ((((IsS55.apart HI364.out (Kd.R_apart' HO_5.out (Kd.Q_typed HO375.out) (by decide)) (by decide))).1 k_ e_.symm).1.1.2.2.2) hs_))) (fun hn_ => (Kd.fresh' (Kd.R_lt (by (with_reducible repeat (first | apply Kd.R_alloc | apply Kd.R_drewN | apply Kd.R_drew)); exact HO_5.out)) k_ hn_)), Or.elim hk_.1 (fun hs_ => Or.elim hs_ (fun hs_ => fun e_ => ((((IsS55.apart HI364.out (Kd.R_apart' HO_6.out (Kd.Q_typed HO375.out) (by decide)) (by decide))).1 k_ e_.symm).1.2) hs_) (fun hs_ => Or.elim hs_ (fun hs_ => fun e_ => ((((IsS55.apart HI364.out (Kd.R_apart' HO_6.out (Kd.Q_typed HO375.out) (by decide)) (by decide))).1 k_ e_.symm).1.1.2.2.1) hs_) (fun hs_ => fun e_ => ((((IsS55.apart HI364.out (Kd.R_apart' HO_6.out (Kd.Q_typed HO375.out) (by decide)) (by decide))).1 k_ e_.symm).1.1.2.2.2) hs_))) (fun hn_ => (Kd.fresh' (Kd.R_lt (by (with_reducible repeat (first | apply Kd.R_alloc | apply Kd.R_drewN | apply Kd.R_drew)); exact HO_6.out)) k_ hn_)), Or.elim hk_.1 (fun hs_ => Or.elim hs_ (fun hs_ => fun e_ => ((((IsS55.apart HI364.out (Kd.R_apart' HO371.out (Kd.Q_typed HO375.out) (by decide)) (by decide))).1 k_ e_.symm).1.2) hs_) (fun hs_ => Or.elim hs_ (fun hs_ => fun e_ => ((((IsS55.apart HI364.out (Kd.R_apart' HO371.out (Kd.Q_typed HO375.out) (by decide)) (by decide))).1 k_ e_.symm).1.1.1) hs_) (fun hs_ => fun e_ => ((((IsS55.apart HI364.out (Kd.R_apart' HO371.out (Kd.Q_typed HO375.out) (by decide)) (by decide))).1 k_ e_.symm).1.1.2.1) hs_))) (fun hn_ => (Kd.fresh' (Kd.R_lt (by (with_reducible repeat (first | apply Kd.R_alloc | apply Kd.R_drewN | apply Kd.R_drew)); exact HO371.out)) k_ hn_))⟩)); have n9_ := Aside0.mk (hb); clear HO_5; clear HO_6; clear BK352; clear HI364; clear HO371; clear HB; clear HO375; clear HO378; clear HO381; have HO_5 := n0_; have HO_6 := n1_; have BK352 := n2_; have HI364 := n3_; have HO371 := n4_; have HO384 := n5_; have HO388 := n6_; have HO391 := n7_; have HO394 := n8_; have HB := n9_; clear n0_ n1_ n2_ n3_ n4_ n5_ n6_ n7_ n8_ n9_; (try clear hb); (try clear hkp); (try clear ho0); (try clear ho1); (try clear ho2); (try clear ho3)) | ((with_reducible refine gate_callee (f := 10) rfl ?_); refine goesL_ (some 64) rfl rfl Try.func10 (by kernel_rfl) rfl #[.pointer (some ⟨g364, 0, none⟩)] rfl (by (try simp only [List.map_toArray, List.map_cons, List.map_nil]); first | done | rfl | (simp only [List.length_drop, List.length_take]; rfl)) ?_; (with_reducible refine (feed_Feed_Clock.calls g364 (fun k_ => some k_ = (v387 : Value).ownBlock) v387 t386 (fun k_ => some k_ = (v390 : Value).ownBlock) v390 t389 (fun k_ => some k_ = (v393 : Value).ownBlock) v393 t392 t395 t396 t399 t402 w _ ?side1 ?side2 ?side3 ?side4 ?side5 ?side6 ?side7 A28.out).mono ?_); (case side1 => repeat (first | (with_reducible first | exact HI364.out | apply IsS55.alloc | apply IsS55.drewN | apply IsS55.drew | apply IsS55.set_0 | apply IsS55.set_1 | apply IsS55.set_2 | refine IsS55.far ?_ NB364_352.out _) | exact HI364.out)); (case side2 => repeat (first | (with_reducible first | exact HB.out | apply below_alloc | apply pw_below_drewN | apply below_drew1 | refine below_set ?_ (IsS55.ge HI364.out) | refine below_set ?_ GE352.out) | exact HB.out)); (case side3 => exact Kd.Q_tight rfl HO388.out); (case side4 => exact Kd.Q_tight rfl HO391.out); (case side5 => exact fun k_ e_ => (HO391.out.1 k_ e_.symm).2.1); (case side6 => exact Kd.Q_tight rfl HO394.out); (case side7 => exact fun k_ e_ => (HO394.out.1 k_ e_.symm).2.1); rintro e w42 ⟨v397, v400, v403, rfl, ho0, ho1, ho2, hi, hb, hkp⟩; refine ⟨_, rfl, ?_⟩; have n0_ := Aside0.mk (Kd.R_mono (ok' := fun k_ => some k_ ≠ (u6 : Value).ownBlock ∧ some k_ ≠ (v370 : Value).ownBlock ∧ some k_ ≠ (v383 : Value).ownBlock ∧ some k_ ≠ (v400 : Value).ownBlock ∧ some k_ ≠ (v403 : Value).ownBlock) (Kd.R_keptB ((IsS55.apart HI364.out (Kd.R_apart' HO_5.out (Kd.Q_typed HO388.out) (by decide)) (by decide))) hkp (fun k_ hk_ hs_ => Or.elim hs_ (fun hs_ => Or.elim hs_ (fun e_ => (hk_.1.2) e_) (fun e_ => Or.elim e_ (fun e_ => (hk_.1.1.2.2.2.1) e_) (fun e_ => (hk_.1.1.2.2.2.2) e_))) (fun e_ => (hk_.2) e_))) (fun k_ hk_ => ⟨hk_.1.1.1.1, hk_.1.1.1.2.1, hk_.1.1.1.2.2.1, fun e_ => Or.elim (ho1.1 k_ e_.symm).1 (fun hs_ => hk_.2.1 (.inl hs_)) (fun hn_ => Nat.not_le.2 hk_.2.2 hn_), fun e_ => Or.elim (ho2.1 k_ e_.symm).1 (fun hs_ => hk_.2.1 (.inl hs_)) (fun hn_ => Nat.not_le.2 hk_.2.2 hn_)⟩)); have n1_ := Aside0.mk (Kd.R_mono (ok' := fun k_ => some k_ ≠ (u5 : Value).ownBlock ∧ some k_ ≠ (v370 : Value).ownBlock ∧ some k_ ≠ (v383 : Value).ownBlock ∧ some k_ ≠ (v400 : Value).ownBlock ∧ some k_ ≠ (v403 : Value).ownBlock) (Kd.R_keptB ((IsS55.apart HI364.out (Kd.R_apart' HO_6.out (Kd.Q_typed HO388.out) (by decide)) (by decide))) hkp (fun k_ hk_ hs_ => Or.elim hs_ (fun hs_ => Or.elim hs_ (fun e_ => (hk_.1.2) e_) (fun e_ => Or.elim e_ (fun e_ => (hk_.1.1.2.2.2.1) e_) (fun e_ => (hk_.1.1.2.2.2.2) e_))) (fun e_ => (hk_.2) e_))) (fun k_ hk_ => ⟨hk_.1.1.1.1, hk_.1.1.1.2.1, hk_.1.1.1.2.2.1, fun e_ => Or.elim (ho1.1 k_ e_.symm).1 (fun hs_ => hk_.2.1 (.inl hs_)) (fun hn_ => Nat.not_le.2 hk_.2.2 hn_), fun e_ => Or.elim (ho2.1 k_ e_.symm).1 (fun hs_ => hk_.2.1 (.inl hs_)) (fun hn_ => Nat.not_le.2 hk_.2.2 hn_)⟩)); have n2_ := Aside0.mk (blk_kept (o := .cells #[.slice A0_0 l0_0.length c0_0, .slice A0_1 l0_1.length c0_1, .slice A0_2 l0_2.length c0_2, .slice (some ad367) l0_3.length c0_3] 28 (0, 0)) (by (with_reducible repeat (first | refine blk_drewN ?_ _ | refine blk_drew ?_ | refine blk_alloc ?_ _)); exact BK352.out) hkp (fun hs_ => Or.elim hs_ (fun hs_ => Or.elim hs_ (fun e_ => (fun e_ => (Kd.Q_ne HO388.out BK352.out (by decide)) e_) e_) (fun e_ => Or.elim e_ (fun e_ => (fun e_ => (Kd.Q_ne HO391.out BK352.out (by decide)) e_) e_) (fun e_ => (fun e_ => (Kd.Q_ne HO394.out BK352.out (by decide)) e_) e_))) (fun e_ => NB352_364.out e_))); have n3_ := Aside0.mk (hi); have n4_ := Aside0.mk (Kd.R_mono (ok' := fun k_ => some k_ ≠ (u5 : Value).ownBlock ∧ some k_ ≠ (u6 : Value).ownBlock ∧ some k_ ≠ (v383 : Value).ownBlock ∧ some k_ ≠ (v400 : Value).ownBlock ∧ some k_ ≠ (v403 : Value).ownBlock) (Kd.R_keptB ((IsS55.apart HI364.out (Kd.R_apart' HO371.out (Kd.Q_typed HO388.out) (by decide)) (by decide))) hkp (fun k_ hk_ hs_ => Or.elim hs_ (fun hs_ => Or.elim hs_ (fun e_ => (hk_.1.2) e_) (fun e_ => Or.elim e_ (fun e_ => (hk_.1.1.2.2.2.1) e_) (fun e_ => (hk_.1.1.2.2.2.2) e_))) (fun e_ => (hk_.2) e_))) (fun k_ hk_ => ⟨hk_.1.1.1.1, hk_.1.1.1.2.1, hk_.1.1.1.2.2.1, fun e_ => Or.elim (ho1.1 k_ e_.symm).1 (fun hs_ => hk_.2.1 (.inl hs_)) (fun hn_ => Nat.not_le.2 hk_.2.2 hn_), fun e_ => Or.elim (ho2.1 k_ e_.symm).1 (fun hs_ => hk_.2.1 (.inl hs_)) (fun hn_ => Nat.not_le.2 hk_.2.2 hn_)⟩)); have n5_ := Aside0.mk (Kd.R_mono (ok' := fun k_ => some k_ ≠ (u5 : Value).ownBlock ∧ some k_ ≠ (u6 : Value).ownBlock ∧ some k_ ≠ (v370 : Value).ownBlock ∧ some k_ ≠ (v400 : Value).ownBlock ∧ some k_ ≠ (v403 : Value).ownBlock) (Kd.R_keptB ((IsS55.apart HI364.out (Kd.R_apart' HO384.out (Kd.Q_typed HO388.out) (by decide)) (by decide))) hkp (fun k_ hk_ hs_ => Or.elim hs_ (fun hs_ => Or.elim hs_ (fun e_ => (hk_.1.2) e_) (fun e_ => Or.elim e_ (fun e_ => (hk_.1.1.1) e_) (fun e_ => (hk_.1.1.2.1) e_))) (fun e_ => (hk_.2) e_))) (fun k_ hk_ => ⟨hk_.1.1.1.2.2.1, hk_.1.1.1.2.2.2.1, hk_.1.1.1.2.2.2.2, fun e_ => Or.elim (ho1.1 k_ e_.symm).1 (fun hs_ => hk_.2.1 (.inl hs_)) (fun hn_ => Nat.not_le.2 hk_.2.2 hn_), fun e_ => Or.elim (ho2.1 k_ e_.symm).1 (fun hs_ => hk_.2.1 (.inl hs_)) (fun hn_ => Nat.not_le.2 hk_.2.2 hn_)⟩)); have n6_ := Aside0.mk (Kd.Q_mono (ok' := fun k_ => True) ho0 (fun k_ hk_ => trivial)); have n7_ := Aside0.mk (Kd.Q_mono (ok' := fun k_ => some k_ ≠ (v403 : Value).ownBlock ∧ some k_ ≠ (u5 : Value).ownBlock ∧ some k_ ≠ (u6 : Value).ownBlock ∧ some k_ ≠ (v370 : Value).ownBlock ∧ some k_ ≠ (v383 : Value).ownBlock) ho1 (fun k_ hk_ => ⟨hk_.2, Or.elim hk_.1 (fun hs_ => Or.elim hs_ (fun hs_ => fun e_ => ((((IsS55.apart HI364.out (Kd.R_apart' HO_5.out (Kd.Q_typed HO388.out) (by decide)) (by decide))).1 k_ e_.symm).1.2) hs_) (fun hs_ => Or.elim hs_ (fun hs_ => fun e_ => ((((IsS55.apart HI364.out (Kd.R_apart' HO_5.out (Kd.Q_typed HO388.out) (by decide)) (by decide))).1 k_ e_.symm).1.1.2.2.2.1) hs_) (fun hs_ => fun e_ => ((((IsS55.apart HI364.out (Kd.R_apart' HO_5.out (Kd.Q_typed HO388.out) (by decide)) (by decide))).1 k_ e_.symm).1.1.2.2.2.2) hs_))) (fun hn_ => (Kd.fresh' (Kd.R_lt (by (with_reducible repeat (first | apply Kd.R_alloc | apply Kd.R_drewN | apply Kd.R_drew)); exact HO_5.out)) k_ hn_)), Or.elim hk_.1 (fun hs_ => Or.elim hs_ (fun hs_ => fun e_ => ((((IsS55.apart HI364.out (Kd.R_apart' HO_6.out (Kd.Q_typed HO388.out) (by decide)) (by decide))).1 k_ e_.symm).1.2) hs_) (fun hs_ => Or.elim hs_ (fun hs_ => fun e_ => ((((IsS55.apart HI364.out (Kd.R_apart' HO_6.out (Kd.Q_typed HO388.out) (by decide)) (by decide))).1 k_ e_.symm).1.1.2.2.2.1) hs_) (fun hs_ => fun e_ => ((((IsS55.apart HI364.out (Kd.R_apart' HO_6.out (Kd.Q_typed HO388.out) (by decide)) (by decide))).1 k_ e_.symm).1.1.2.2.2.2) hs_))) (fun hn_ => (Kd.fresh' (Kd.R_lt (by (with_reducible repeat (first | apply Kd.R_alloc | apply Kd.R_drewN | apply Kd.R_drew)); exact HO_6.out)) k_ hn_)), Or.elim hk_.1 (fun hs_ => Or.elim hs_ (fun hs_ => fun e_ => ((((IsS55.apart HI364.out (Kd.R_apart' HO371.out (Kd.Q_typed HO388.out) (by decide)) (by decide))).1 k_ e_.symm).1.2) hs_) (fun hs_ => Or.elim hs_ (fun hs_ => fun e_ => ((((IsS55.apart HI364.out (Kd.R_apart' HO371.out (Kd.Q_typed HO388.out) (by decide)) (by decide))).1 k_ e_.symm).1.1.2.2.2.1) hs_) (fun hs_ => fun e_ => ((((IsS55.apart HI364.out (Kd.R_apart' HO371.out (Kd.Q_typed HO388.out) (by decide)) (by decide))).1 k_ e_.symm).1.1.2.2.2.2) hs_))) (fun hn_ => (Kd.fresh' (Kd.R_lt (by (with_reducible repeat (first | apply Kd.R_alloc | apply Kd.R_drewN | apply Kd.R_drew)); exact HO371.out)) k_ hn_)), Or.elim hk_.1 (fun hs_ => Or.elim hs_ (fun hs_ => fun e_ => ((((IsS55.apart HI364.out (Kd.R_apart' HO384.out (Kd.Q_typed HO388.out) (by decide)) (by decide))).1 k_ e_.symm).1.2) hs_) (fun hs_ => Or.elim hs_ (fun hs_ => fun e_ => ((((IsS55.apart HI364.out (Kd.R_apart' HO384.out (Kd.Q_typed HO388.out) (by decide)) (by decide))).1 k_ e_.symm).1.1.1) hs_) (fun hs_ => fun e_ => ((((IsS55.apart HI364.out (Kd.R_apart' HO384.out (Kd.Q_typed HO388.out) (by decide)) (by decide))).1 k_ e_.symm).1.1.2.1) hs_))) (fun hn_ => (Kd.fresh' (Kd.R_lt (by (with_reducible repeat (first | apply Kd.R_alloc | apply Kd.R_drewN | apply Kd.R_drew)); exact HO384.out)) k_ hn_))⟩)); have n8_ := Aside0.mk (Kd.Q_mono (ok' := fun k_ => some k_ ≠ (v400 : Value).ownBlock ∧ some k_ ≠ (u5 : Value).ownBlock ∧ some k_ ≠ (u6 : Value).ownBlock ∧ some k_ ≠ (v370 : Value).ownBlock ∧ some k_ ≠ (v383 : Value).ownBlock) ho2 (fun k_ hk_ => ⟨hk_.2, Or.elim hk_.1 (fun hs_ => Or.elim hs_ (fun hs_ => fun e_ => ((((IsS55.apart HI364.out (Kd.R_apart' HO_5.out (Kd.Q_typed HO388.out) (by decide)) (by decide))).1 k_ e_.symm).1.2) hs_) (fun hs_ => Or.elim hs_ (fun hs_ => fun e_ => ((((IsS55.apart HI364.out (Kd.R_apart' HO_5.out (Kd.Q_typed HO388.out) (by decide)) (by decide))).1 k_ e_.symm).1.1.2.2.2.1) hs_) (fun hs_ => fun e_ => ((((IsS55.apart HI364.out (Kd.R_apart' HO_5.out (Kd.Q_typed HO388.out) (by decide)) (by decide))).1 k_ e_.symm).1.1.2.2.2.2) hs_))) (fun hn_ => (Kd.fresh' (Kd.R_lt (by (with_reducible repeat (first | apply Kd.R_alloc | apply Kd.R_drewN | apply Kd.R_drew)); exact HO_5.out)) k_ hn_)), Or.elim hk_.1 (fun hs_ => Or.elim hs_ (fun hs_ => fun e_ => ((((IsS55.apart HI364.out (Kd.R_apart' HO_6.out (Kd.Q_typed HO388.out) (by decide)) (by decide))).1 k_ e_.symm).1.2) hs_) (fun hs_ => Or.elim hs_ (fun hs_ => fun e_ => ((((IsS55.apart HI364.out (Kd.R_apart' HO_6.out (Kd.Q_typed HO388.out) (by decide)) (by decide))).1 k_ e_.symm).1.1.2.2.2.1) hs_) (fun hs_ => fun e_ => ((((IsS55.apart HI364.out (Kd.R_apart' HO_6.out (Kd.Q_typed HO388.out) (by decide)) (by decide))).1 k_ e_.symm).1.1.2.2.2.2) hs_))) (fun hn_ => (Kd.fresh' (Kd.R_lt (by (with_reducible repeat (first | apply Kd.R_alloc | apply Kd.R_drewN | apply Kd.R_drew)); exact HO_6.out)) k_ hn_)), Or.elim hk_.1 (fun hs_ => Or.elim hs_ (fun hs_ => fun e_ => ((((IsS55.apart HI364.out (Kd.R_apart' HO371.out (Kd.Q_typed HO388.out) (by decide)) (by decide))).1 k_ e_.symm).1.2) hs_) (fun hs_ => Or.elim hs_ (fun hs_ => fun e_ => ((((IsS55.apart HI364.out (Kd.R_apart' HO371.out (Kd.Q_typed HO388.out) (by decide)) (by decide))).1 k_ e_.symm).1.1.2.2.2.1) hs_) (fun hs_ => fun e_ => ((((IsS55.apart HI364.out (Kd.R_apart' HO371.out (Kd.Q_typed HO388.out) (by decide)) (by decide))).1 k_ e_.symm).1.1.2.2.2.2) hs_))) (fun hn_ => (Kd.fresh' (Kd.R_lt (by (with_reducible repeat (first | apply Kd.R_alloc | apply Kd.R_drewN | apply Kd.R_drew)); exact HO371.out)) k_ hn_)), Or.elim hk_.1 (fun hs_ => Or.elim hs_ (fun hs_ => fun e_ => ((((IsS55.apart HI364.out (Kd.R_apart' HO384.out (Kd.Q_typed HO388.out) (by decide)) (by decide))).1 k_ e_.symm).1.2) hs_) (fun hs_ => Or.elim hs_ (fun hs_ => fun e_ => ((((IsS55.apart HI364.out (Kd.R_apart' HO384.out (Kd.Q_typed HO388.out) (by decide)) (by decide))).1 k_ e_.symm).1.1.1) hs_) (fun hs_ => fun e_ => ((((IsS55.apart HI364.out (Kd.R_apart' HO384.out (Kd.Q_typed HO388.out) (by decide)) (by decide))).1 k_ e_.symm).1.1.2.1) hs_))) (fun hn_ => (Kd.fresh' (Kd.R_lt (by (with_reducible repeat (first | apply Kd.R_alloc | apply Kd.R_drewN | apply Kd.R_drew)); exact HO384.out)) k_ hn_))⟩)); have n9_ := Aside0.mk (hb); clear HO_5; clear HO_6; clear BK352; clear HI364; clear HO371; clear HO384; clear HB; clear HO388; clear HO391; clear HO394; have HO_5 := n0_; have HO_6 := n1_; have BK352 := n2_; have HI364 := n3_; have HO371 := n4_; have HO384 := n5_; have HO398 := n6_; have HO401 := n7_; have HO404 := n8_; have HB := n9_; clear n0_ n1_ n2_ n3_ n4_ n5_ n6_ n7_ n8_ n9_; (try clear hb); (try clear hkp); (try clear ho0); (try clear ho1); (try clear ho2)) | ((with_reducible refine gate_callee (f := 8) rfl ?_); refine goesL_ (some 66) rfl rfl Try.func8 (by kernel_rfl) rfl #[.int .i64 t372] rfl (by (try simp only [List.map_toArray, List.map_cons, List.map_nil]); first | done | rfl | (simp only [List.length_drop, List.length_take]; rfl)) ?_; (with_reducible refine (gangwaylaw23_num.calls t372 t405 _ A29.out).mono ?_); rintro e w' ⟨rfl, ⟨nd, rfl⟩⟩; refine ⟨_, rfl, ?_⟩) | (go_at_call 8; (with_reducible refine (gangwaylaw23_num.calls t385 t406 _ A31.out).mono ?_); rintro e w' ⟨rfl, ⟨nd, rfl⟩⟩; obtain ⟨Ao43, co43, eo43⟩ := Kd.R_slice HO384.out; subst eo43; obtain ⟨Ao44, co44, eo44⟩ := Kd.R_slice HO371.out; subst eo44) | ((with_reducible refine gate_builtin (b := .append) (xs := #[.tmp 90, .tmp 91]) rfl ?_); (try (refine gate_guard (by rfl) ?_; dsimp only)); at_builtin; refine Kd.R_append_rows (Kd.int .u8) (w0 := w) w.heap.size rfl (.tmp 90) (.tmp 91) 23 5 (.int .u8 0) 1 rfl Try.underlying23 info5 rfl (by decide) (by omega) u5 x5_1 t369 _ _ _ (fun k_ => some k_ ≠ (u6 : Value).ownBlock ∧ some k_ ≠ (.slice Ao44 t369.length co44 : Value).ownBlock ∧ some k_ ≠ (.slice Ao43 t382.length co43 : Value).ownBlock ∧ some k_ ≠ (v400 : Value).ownBlock ∧ some k_ ≠ (v403 : Value).ownBlock) (fun _ => False) rfl rfl ?aO ?aR (fun _ _ h => h) (fun _ h => h.elim) ?aF ?aB ?aS ?aL ?_; (case aR => repeat (first | exact (Kd.R_reads' HO371.out).2.2 | (with_reducible refine Kd.C_alloc ?_ _) | (with_reducible refine Kd.C_drewN ?_ _) | (with_reducible refine Kd.C_drew ?_))); (case aB => exact (by repeat (first | (with_reducible first | exact HB.out | apply below_alloc | apply pw_below_drewN | apply below_drew1 | refine below_set ?_ (IsS55.ge HI364.out) | refine below_set ?_ GE352.out) | exact HB.out))); (case aF => exact (fun k_ hk => ⟨Kd.fresh' (Kd.R_lt (by (with_reducible repeat (first | apply Kd.R_alloc | apply Kd.R_drewN | apply Kd.R_drew)); exact HO_6.out)) k_ hk, Kd.fresh' (Kd.R_lt (by (with_reducible repeat (first | apply Kd.R_alloc | apply Kd.R_drewN | apply Kd.R_drew)); exact HO371.out)) k_ hk, Kd.fresh' (Kd.R_lt (by (with_reducible repeat (first | apply Kd.R_alloc | apply Kd.R_drewN | apply Kd.R_drew)); exact HO384.out)) k_ hk, Kd.fresh' (Kd.Q_lt (by (with_reducible repeat (first | apply Kd.Q_alloc | apply Kd.Q_drewN | apply Kd.Q_drew)); exact HO401.out)) k_ hk, Kd.fresh' (Kd.Q_lt (by (with_reducible repeat (first | apply Kd.Q_alloc | apply Kd.Q_drewN | apply Kd.Q_drew)); exact HO404.out)) k_ hk⟩)); (case aO => exact (by (with_reducible repeat (first | apply Kd.R_alloc | apply Kd.R_drewN | apply Kd.R_drew)); exact HO_5.out)); (case aS => exact (below_size (by repeat (first | (with_reducible first | exact HB.out | apply below_alloc | apply pw_below_drewN | apply below_drew1 | refine below_set ?_ (IsS55.ge HI364.out) | refine below_set ?_ GE352.out) | exact HB.out)))); (case aL => have := LMc36.out; omega); intro v408 w45 ho hb hg hat; rw [← Ny407.out] at ho; have n0_ := Aside0.mk (Kd.R_after (ok := (fun k_ => some k_ ≠ (.slice Ao44 t369.length co44 : Value).ownBlock ∧ some k_ ≠ (.slice Ao43 t382.length co43 : Value).ownBlock ∧ some k_ ≠ (v400 : Value).ownBlock ∧ some k_ ≠ (v403 : Value).ownBlock)) (by (with_reducible repeat (first | apply Kd.R_alloc | apply Kd.R_drewN | apply Kd.R_drew)); exact Kd.R_mono HO_6.out (fun _ hk => ⟨⟨hk.2.1, ⟨hk.2.2.1, ⟨hk.2.2.2.1, hk.2.2.2.2⟩⟩⟩, hk.1⟩)) hg hat); have n1_ := Aside0.mk (blk_grown (g := gb352) (o := .cells #[.slice A0_0 l0_0.length c0_0, .slice A0_1 l0_1.length c0_1, .slice A0_2 l0_2.length c0_2, .slice (some ad367) l0_3.length c0_3] 28 (0, 0)) (by (with_reducible repeat (first | refine blk_drewN ?_ _ | refine blk_drew ?_ | refine blk_alloc ?_ _)); exact BK352.out) hg (Kd.R_ne HO_5.out BK352.out (by decide))); have n2_ := Aside0.mk (IsS55.grown (by repeat (first | (with_reducible first | exact HI364.out | apply IsS55.alloc | apply IsS55.drewN | apply IsS55.drew | apply IsS55.set_0 | apply IsS55.set_1 | apply IsS55.set_2 | refine IsS55.far ?_ NB364_352.out _) | exact HI364.out)) hg (IsS55.own_ne HI364.out HO_5.out (by decide))); have n3_ := Aside0.mk (Kd.R_after (ok := (fun k_ => some k_ ≠ (u6 : Value).ownBlock ∧ some k_ ≠ (.slice Ao43 t382.length co43 : Value).ownBlock ∧ some k_ ≠ (v400 : Value).ownBlock ∧ some k_ ≠ (v403 : Value).ownBlock)) (by (with_reducible repeat (first | apply Kd.R_alloc | apply Kd.R_drewN | apply Kd.R_drew)); exact Kd.R_mono HO371.out (fun _ hk => ⟨⟨hk.2.1, ⟨hk.2.2.1, ⟨hk.2.2.2.1, hk.2.2.2.2⟩⟩⟩, hk.1⟩)) hg hat); have n4_ := Aside0.mk (Kd.R_after (ok := (fun k_ => some k_ ≠ (u6 : Value).ownBlock ∧ some k_ ≠ (.slice Ao44 t369.length co44 : Value).ownBlock ∧ some k_ ≠ (v400 : Value).ownBlock ∧ some k_ ≠ (v403 : Value).ownBlock)) (by (with_reducible repeat (first | apply Kd.R_alloc | apply Kd.R_drewN | apply Kd.R_drew)); exact Kd.R_mono HO384.out (fun _ hk => ⟨⟨hk.2.1, ⟨hk.2.2.1, ⟨hk.2.2.2.1, hk.2.2.2.2⟩⟩⟩, hk.1⟩)) hg hat); have n5_ := Aside0.mk (Kd.Q_over' (by (with_reducible repeat (first | apply Kd.Q_alloc | apply Kd.Q_drewN | apply Kd.Q_drew)); exact HO398.out) (Kd.R_typed (by (with_reducible repeat (first | apply Kd.R_alloc | apply Kd.R_drewN | apply Kd.R_drew)); exact HO_5.out)) (by decide) hg); have n6_ := Aside0.mk (Kd.Q_after (ok := (fun k_ => some k_ ≠ (u6 : Value).ownBlock ∧ some k_ ≠ (.slice Ao44 t369.length co44 : Value).ownBlock ∧ some k_ ≠ (.slice Ao43 t382.length co43 : Value).ownBlock ∧ some k_ ≠ (v403 : Value).ownBlock)) (by (with_reducible repeat (first | apply Kd.Q_alloc | apply Kd.Q_drewN | apply Kd.Q_drew)); exact Kd.Q_mono HO401.out (fun _ hk => ⟨⟨hk.2.2.1, ⟨hk.2.2.2.1, ⟨hk.2.2.2.2, hk.1⟩⟩⟩, hk.2.1⟩)) hg hat); have n7_ := Aside0.mk (Kd.Q_after (ok := (fun k_ => some k_ ≠ (u6 : Value).ownBlock ∧ some k_ ≠ (.slice Ao44 t369.length co44 : Value).ownBlock ∧ some k_ ≠ (.slice Ao43 t382.length co43 : Value).ownBlock ∧ some k_ ≠ (v400 : Value).ownBlock)) (by (with_reducible repeat (first | apply Kd.Q_alloc | apply Kd.Q_drewN | apply Kd.Q_drew)); exact Kd.Q_mono HO404.out (fun _ hk => ⟨⟨hk.2.2.1, ⟨hk.2.2.2.1, ⟨hk.2.2.2.2, hk.1⟩⟩⟩, hk.2.1⟩)) hg hat); have n8_ := Aside0.mk (hb); have n9_ := Aside0.mk (ho); clear HO_6; clear BK352; clear HI364; clear HO371; clear HO384; clear HO398; clear HO401; clear HO404; clear HB; clear HO_5; have HO_6 := n0_; have BK352 := n1_; have HI364 := n2_; have HO371 := n3_; have HO384 := n4_; have HO398 := n5_; have HO401 := n6_; have HO404 := n7_; have HB := n8_; have HO409 := n9_; clear n0_ n1_ n2_ n3_ n4_ n5_ n6_ n7_ n8_ n9_; clear ho hb hg hat) | ((with_reducible refine gate_builtin (b := .append) (xs := #[.tmp 93, .tmp 94]) rfl ?_); (try (refine gate_guard (by rfl) ?_; dsimp only)); at_builtin; refine Kd.R_append_rows (Kd.int .u8) (w0 := w) w.heap.size rfl (.tmp 93) (.tmp 94) 23 5 (.int .u8 0) 1 rfl Try.underlying23 info5 rfl (by decide) (by omega) u6 x6_1 t382 _ _ _ (fun k_ => some k_ ≠ (.slice Ao44 t369.length co44 : Value).ownBlock ∧ some k_ ≠ (.slice Ao43 t382.length co43 : Value).ownBlock ∧ some k_ ≠ (v400 : Value).ownBlock ∧ some k_ ≠ (v403 : Value).ownBlock ∧ some k_ ≠ (v408 : Value).ownBlock) (fun _ => False) rfl rfl ?aO ?aR (fun _ _ h => h) (fun _ h => h.elim) ?aF ?aB ?aS ?aL ?_; (case aR => repeat (first | exact (Kd.R_reads' HO384.out).2.2 | (with_reducible refine Kd.C_alloc ?_ _) | (with_reducible refine Kd.C_drewN ?_ _) | (with_reducible refine Kd.C_drew ?_))); (case aB => exact (by repeat (first | (with_reducible first | exact HB.out | apply below_alloc | apply pw_below_drewN | apply below_drew1 | refine below_set ?_ (IsS55.ge HI364.out) | refine below_set ?_ GE352.out) | exact HB.out))); (case aF => exact (fun k_ hk => ⟨Kd.fresh' (Kd.R_lt (by (with_reducible repeat (first | apply Kd.R_alloc | apply Kd.R_drewN | apply Kd.R_drew)); exact HO371.out)) k_ hk, Kd.fresh' (Kd.R_lt (by (with_reducible repeat (first | apply Kd.R_alloc | apply Kd.R_drewN | apply Kd.R_drew)); exact HO384.out)) k_ hk, Kd.fresh' (Kd.Q_lt (by (with_reducible repeat (first | apply Kd.Q_alloc | apply Kd.Q_drewN | apply Kd.Q_drew)); exact HO401.out)) k_ hk, Kd.fresh' (Kd.Q_lt (by (with_reducible repeat (first | apply Kd.Q_alloc | apply Kd.Q_drewN | apply Kd.Q_drew)); exact HO404.out)) k_ hk, Kd.fresh' (Kd.R_lt (by (with_reducible repeat (first | apply Kd.R_alloc | apply Kd.R_drewN | apply Kd.R_drew)); exact HO409.out)) k_ hk⟩)); (case aO => exact (by (with_reducible repeat (first | apply Kd.R_alloc | apply Kd.R_drewN | apply Kd.R_drew)); exact Kd.R_mono HO_6.out (fun _ hk => ⟨hk.1.1, ⟨hk.1.2.1, ⟨hk.1.2.2.1, ⟨hk.1.2.2.2, hk.2⟩⟩⟩⟩))); (case aS => exact (below_size (by repeat (first | (with_reducible first | exact HB.out | apply below_alloc | apply pw_below_drewN | apply below_drew1 | refine below_set ?_ (IsS55.ge HI364.out) | refine below_set ?_ GE352.out) | exact HB.out)))); (case aL => have := LMc37.out; omega); intro v411 w46 ho hb hg hat; rw [← Ny410.out] at ho; have n0_ := Aside0.mk (blk_grown (g := gb352) (o := .cells #[.slice A0_0 l0_0.length c0_0, .slice A0_1 l0_1.length c0_1, .slice A0_2 l0_2.length c0_2, .slice (some ad367) l0_3.length c0_3] 28 (0, 0)) (by (with_reducible repeat (first | refine blk_drewN ?_ _ | refine blk_drew ?_ | refine blk_alloc ?_ _)); exact BK352.out) hg (Kd.R_ne HO_6.out BK352.out (by decide))); have n1_ := Aside0.mk (IsS55.grown (by repeat (first | (with_reducible first | exact HI364.out | apply IsS55.alloc | apply IsS55.drewN | apply IsS55.drew | apply IsS55.set_0 | apply IsS55.set_1 | apply IsS55.set_2 | refine IsS55.far ?_ NB364_352.out _) | exact HI364.out)) hg (IsS55.own_ne HI364.out HO_6.out (by decide))); have n2_ := Aside0.mk (Kd.R_after (ok := (fun k_ => some k_ ≠ (.slice Ao43 t382.length co43 : Value).ownBlock ∧ some k_ ≠ (v400 : Value).ownBlock ∧ some k_ ≠ (v403 : Value).ownBlock ∧ some k_ ≠ (v408 : Value).ownBlock)) (by (with_reducible repeat (first | apply Kd.R_alloc | apply Kd.R_drewN | apply Kd.R_drew)); exact Kd.R_mono HO371.out (fun _ hk => ⟨⟨hk.1.2.1, ⟨hk.1.2.2.1, ⟨hk.1.2.2.2, hk.2⟩⟩⟩, hk.1.1⟩)) hg hat); have n3_ := Aside0.mk (Kd.R_after (ok := (fun k_ => some k_ ≠ (.slice Ao44 t369.length co44 : Value).ownBlock ∧ some k_ ≠ (v400 : Value).ownBlock ∧ some k_ ≠ (v403 : Value).ownBlock ∧ some k_ ≠ (v408 : Value).ownBlock)) (by (with_reducible repeat (first | apply Kd.R_alloc | apply Kd.R_drewN | apply Kd.R_drew)); exact Kd.R_mono HO384.out (fun _ hk => ⟨⟨hk.1.2.1, ⟨hk.1.2.2.1, ⟨hk.1.2.2.2, hk.2⟩⟩⟩, hk.1.1⟩)) hg hat); have n4_ := Aside0.mk (Kd.Q_over' (by (with_reducible repeat (first | apply Kd.Q_alloc | apply Kd.Q_drewN | apply Kd.Q_drew)); exact HO398.out) (Kd.R_typed (by (with_reducible repeat (first | apply Kd.R_alloc | apply Kd.R_drewN | apply Kd.R_drew)); exact HO_6.out)) (by decide) hg); have n5_ := Aside0.mk (Kd.Q_after (ok := (fun k_ => some k_ ≠ (.slice Ao44 t369.length co44 : Value).ownBlock ∧ some k_ ≠ (.slice Ao43 t382.length co43 : Value).ownBlock ∧ some k_ ≠ (v403 : Value).ownBlock ∧ some k_ ≠ (v408 : Value).ownBlock)) (by (with_reducible repeat (first | apply Kd.Q_alloc | apply Kd.Q_drewN | apply Kd.Q_drew)); exact Kd.Q_mono HO401.out (fun _ hk => ⟨⟨hk.1.2.1, ⟨hk.1.2.2.1, ⟨hk.1.2.2.2, hk.2⟩⟩⟩, hk.1.1⟩)) hg hat); have n6_ := Aside0.mk (Kd.Q_after (ok := (fun k_ => some k_ ≠ (.slice Ao44 t369.length co44 : Value).ownBlock ∧ some k_ ≠ (.slice Ao43 t382.length co43 : Value).ownBlock ∧ some k_ ≠ (v400 : Value).ownBlock ∧ some k_ ≠ (v408 : Value).ownBlock)) (by (with_reducible repeat (first | apply Kd.Q_alloc | apply Kd.Q_drewN | apply Kd.Q_drew)); exact Kd.Q_mono HO404.out (fun _ hk => ⟨⟨hk.1.2.1, ⟨hk.1.2.2.1, ⟨hk.1.2.2.2, hk.2⟩⟩⟩, hk.1.1⟩)) hg hat); have n7_ := Aside0.mk (Kd.R_after (ok := (fun k_ => some k_ ≠ (.slice Ao44 t369.length co44 : Value).ownBlock ∧ some k_ ≠ (.slice Ao43 t382.length co43 : Value).ownBlock ∧ some k_ ≠ (v400 : Value).ownBlock ∧ some k_ ≠ (v403 : Value).ownBlock)) (by (with_reducible repeat (first | apply Kd.R_alloc | apply Kd.R_drewN | apply Kd.R_drew)); exact Kd.R_mono HO409.out (fun _ hk => ⟨⟨hk.2.1, ⟨hk.2.2.1, ⟨hk.2.2.2.1, hk.2.2.2.2⟩⟩⟩, hk.1⟩)) hg hat); have n8_ := Aside0.mk (hb); have n9_ := Aside0.mk (ho); clear BK352; clear HI364; clear HO371; clear HO384; clear HO398; clear HO401; clear HO404; clear HO409; clear HB; clear HO_6; have BK352 := n0_; have HI364 := n1_; have HO371 := n2_; have HO384 := n3_; have HO398 := n4_; have HO401 := n5_; have HO404 := n6_; have HO409 := n7_; have HB := n8_; have HO412 := n9_; clear n0_ n1_ n2_ n3_ n4_ n5_ n6_ n7_ n8_ n9_; clear ho hb hg hat))
                                    go_roundg kj15
                                    case measure => have := HK1.out; have := HJ15.out; omega
                                    case rel => exact ⟨(y407), (y410), (t395), (wrap64 (x8_1 + 1)), (t396), (t399), (t402), (v397), (v400), (v403), (by first | rfl | (simp; done) | (simp [*]; done)), (by first | rfl | (simp; done) | (simp [*]; done)), H', ⟨by have := HK1.out; have := HJ15.out; omega⟩, ⟨by (with_reducible repeat (first | apply Kd.R_alloc | apply Kd.R_drewN | apply Kd.R_drew)); exact Kd.R_mono HO409.out (fun _ hk => ⟨hk.2, ⟨hk.1.2.2.1, hk.1.2.2.2⟩⟩)⟩, ⟨by (with_reducible repeat (first | apply Kd.R_alloc | apply Kd.R_drewN | apply Kd.R_drew)); exact Kd.R_mono HO412.out (fun _ hk => ⟨hk.2.2.2.2, ⟨hk.2.2.1, hk.2.2.2.1⟩⟩)⟩, ⟨by (with_reducible repeat (first | apply Kd.Q_alloc | apply Kd.Q_drewN | apply Kd.Q_drew)); exact HO398.out⟩, ⟨by (with_reducible repeat (first | apply Kd.Q_alloc | apply Kd.Q_drewN | apply Kd.Q_drew)); exact Kd.Q_mono HO401.out (fun _ hk => ⟨hk.1.2.2.2, ⟨hk.2, hk.1.2.2.1⟩⟩)⟩, ⟨by (with_reducible repeat (first | apply Kd.Q_alloc | apply Kd.Q_drewN | apply Kd.Q_drew)); exact Kd.Q_mono HO404.out (fun _ hk => ⟨hk.1.2.2.2, ⟨hk.2, hk.1.2.2.1⟩⟩)⟩, ⟨by (with_reducible repeat (first | refine blk_drewN ?_ _ | refine blk_drew ?_ | refine blk_alloc ?_ _)); exact BK352.out⟩, ⟨by repeat (first | (with_reducible first | exact HI364.out | apply IsS55.alloc | apply IsS55.drewN | apply IsS55.drew | apply IsS55.set_0 | apply IsS55.set_1 | apply IsS55.set_2 | refine IsS55.far ?_ NB364_352.out _) | exact HI364.out)⟩, ⟨by repeat (first | (with_reducible first | exact HB.out | apply below_alloc | apply pw_below_drewN | apply below_drew1 | refine below_set ?_ (IsS55.ge HI364.out) | refine below_set ?_ GE352.out) | exact HB.out)⟩⟩
                                  · rw [if_neg c37] at H
                                    exact absurd H (by simp)
                                · rw [if_neg c36] at H
                                  exact absurd H (by simp)
                          · rw [if_neg c33] at H
                            exact absurd H (by simp)
                        · rw [if_neg c32] at H
                          exact absurd H (by simp)
                      · rw [if_neg c30] at H
                        exact absurd H (by simp)
                    · rw [if_neg c24] at H
                      exact absurd H (by simp)
                  · rw [if_neg c23] at H
                    exact absurd H (by simp)
                · replace c22 := Bool.eq_false_iff.mpr c22
                  subst c22
                  have H1 : ((feed_Feed_Left.f x365000_1 x365001_1 x365002_1).bind fun bt413 => (if (wrap64 ((x5_1.length : Int) + bt413.1)) = (l0_2.length : Int) then (if 0 ≤ (x5_1.length : Int) then (if (x5_1.length : Int) ≤ (l0_2.length : Int) then ((gangwayref0_EqBytes.f kj15 x5_1 (l0_2.take ((x5_1.length : Int) : Int).toNat)).bind fun t424 => (if t424 = true then (gangwaylaw23_FeedParts.l1 kj15 x6_1 0 l0_0 l0_1 l0_2 l0_3) else (none))) else (none)) else (none)) else (none))) = some r := by rw [if_neg (show ¬ (false = true) by decide)] at H; exact H
                  clear H
                  have H := H1
                  clear H1
                  replace H := Option.bind_eq_some_iff.mp H
                  obtain ⟨⟨t413, t414, t417, t420⟩, A470, H⟩ := H
                  replace H : (if (wrap64 ((x5_1.length : Int) + t413)) = (l0_2.length : Int) then (if 0 ≤ (x5_1.length : Int) then (if (x5_1.length : Int) ≤ (l0_2.length : Int) then ((gangwayref0_EqBytes.f kj15 x5_1 (l0_2.take ((x5_1.length : Int) : Int).toNat)).bind fun t424 => (if t424 = true then (gangwaylaw23_FeedParts.l1 kj15 x6_1 0 l0_0 l0_1 l0_2 l0_3) else (none))) else (none)) else (none)) else (none)) = some r := H
                  have A47 := Aside0.mk A470
                  clear A470
                  by_cases c48 : (wrap64 ((x5_1.length : Int) + t413)) = (l0_2.length : Int)
                  · rw [if_pos c48] at H
                    have c48b0 : ((wrap64 ((x5_1.length : Int) + t413)) == (l0_2.length : Int)) = true := beq_iff_eq.mpr c48
                    have c48b1 : ((wrap64 ((x5_1.length : Int) + t413)) != (l0_2.length : Int)) = false := bne_eq_false_iff_eq.mpr c48
                    clear c48
                    by_cases c49 : 0 ≤ (x5_1.length : Int)
                    · rw [if_pos c49] at H
                      have c49b0 := eq_true c49
                      have c49b1 : decide (0 ≤ (x5_1.length : Int)) = true := decide_eq_true c49
                      clear c49
                      by_cases c50 : (x5_1.length : Int) ≤ (l0_2.length : Int)
                      · rw [if_pos c50] at H
                        have c50b0 := eq_true c50
                        have c50b1 : decide ((x5_1.length : Int) ≤ (l0_2.length : Int)) = true := decide_eq_true c50
                        clear c50
                        replace H := Option.bind_eq_some_iff.mp H
                        obtain ⟨t424, A510, H⟩ := H
                        replace H : (if t424 = true then (gangwaylaw23_FeedParts.l1 kj15 x6_1 0 l0_0 l0_1 l0_2 l0_3) else (none)) = some r := H
                        have A51 := Aside0.mk A510
                        clear A510
                        by_cases c52 : t424 = true
                        · subst c52
                          have H1 : (gangwaylaw23_FeedParts.l1 kj15 x6_1 0 l0_0 l0_1 l0_2 l0_3) = some r := by rw [if_pos rfl] at H; exact H
                          clear H
                          have H := H1
                          clear H1
                          have H' := Aside0.mk H
                          clear H
                          try go_wp2
                          have n0_ := Aside0.mk (Kd.R_drew HO_5.out)
                          have n1_ := Aside0.mk (Kd.R_drew HO_6.out)
                          have n2_ := Aside0.mk (Kd.Q_drew HO_365000.out)
                          have n3_ := Aside0.mk (Kd.Q_drew HO_365001.out)
                          have n4_ := Aside0.mk (Kd.Q_drew HO_365002.out)
                          have n5_ := Aside0.mk (blk_drew BK352.out)
                          have n6_ := Aside0.mk (IsS55.drew HI364.out)
                          have n7_ := Aside0.mk (below_drew1 HB.out)
                          clear HO_5
                          clear HO_6
                          clear HO_365000
                          clear HO_365001
                          clear HO_365002
                          clear BK352
                          clear HI364
                          clear HB
                          have HO_5 := n0_
                          have HO_6 := n1_
                          have HO_365000 := n2_
                          have HO_365001 := n3_
                          have HO_365002 := n4_
                          have BK352 := n5_
                          have HI364 := n6_
                          have HB := n7_
                          clear n0_ n1_ n2_ n3_ n4_ n5_ n6_ n7_
                          obtain ⟨Ao54, co54, eo54⟩ := Kd.R_slice HO_5.out
                          (first | subst eo54 | (injection eo54 with f1_ f2_ f3_; have f4_ := f1_.symm; have f5_ := f3_.symm; clear f1_ f2_ f3_; subst f4_; subst f5_))
                          refine start_ (n := 21) (S := fun w' => w'.cell? ⟨gb352, 0, none⟩ = some (.slice A0_0 l0_0.length c0_0) ∧ w'.cell? ⟨gb352, 1, none⟩ = some (.slice A0_1 l0_1.length c0_1) ∧ w'.cell? ⟨gb352, 2, none⟩ = some (.slice A0_2 l0_2.length c0_2) ∧ w'.cell? ⟨gb352, 3, none⟩ = some (.slice A0_3 l0_3.length c0_3)) (ds := []) #[false, false, false, false, false, false, false, false, false, false, false, false, false, false, false, false, false, false, false, false, false] (by kernel_rfl) rfl rfl ⟨(blk_cell BK352.out 0).trans rfl, (blk_cell BK352.out 1).trans rfl, (blk_cell BK352.out 2).trans rfl, (blk_cell BK352.out 3).trans rfl⟩ (fun hHeld => ?_); refine with_tabW gangwaylaw23_FeedParts.tab20 gangwaylaw23_FeedParts.bits20 (fun HT_ HW_ => ?_)
                          generalize wc.drew = w53 at HO_5 HO_6 HO_365000 HO_365001 HO_365002 BK352 HI364 HB hHeld ⊢
                          refine pure_ (i := 0) (N := some 97) (v := ?_) (a' := ?_) #[true, false, false, false, false, false, false, false, false, false, false, false, false, false, false, false, false, false, false, false, false] rfl rfl (any_of HT_.out (by kernel_rfl)) (fun _ _ _ h => h) (Or.inl ⟨by rfl, ?_⟩) ?_ ?_
                          rotate_left
                          · intro w'
                            go_simp
                            with_reducible rfl
                          rotate_left
                          · simp only [Act.put, List.setIfInBounds_toArray, List.set_cons_zero, List.set_cons_succ, i64_w, i32_w]
                            rfl
                          refine pure_ (i := 1) (N := some 98) (v := ?_) (a' := ?_) #[true, true, false, false, false, false, false, false, false, false, false, false, false, false, false, false, false, false, false, false, false] rfl rfl (any_of HT_.out (by kernel_rfl)) (fun _ _ _ h => h) (Or.inl ⟨by rfl, ?_⟩) ?_ ?_
                          rotate_left
                          · intro w'
                            go_simp
                            with_reducible rfl
                          rotate_left
                          · simp only [Act.put, List.setIfInBounds_toArray, List.set_cons_zero, List.set_cons_succ, i64_w, i32_w]
                            rfl
                          refine pure_ (i := 2) (N := some 99) (v := ?_) (a' := ?_) #[true, true, true, false, false, false, false, false, false, false, false, false, false, false, false, false, false, false, false, false, false] rfl rfl (any_of HT_.out (by kernel_rfl)) (fun _ _ _ h => h) (Or.inl ⟨by rfl, ?_⟩) ?_ ?_
                          rotate_left
                          · intro w'
                            go_simp
                            with_reducible rfl
                          rotate_left
                          · simp only [Act.put, List.setIfInBounds_toArray, List.set_cons_zero, List.set_cons_succ, i64_w, i32_w]
                            rfl
                          refine pure_ (i := 5) (N := some 102) (v := ?_) (a' := ?_) #[true, true, true, false, false, true, false, false, false, false, false, false, false, false, false, false, false, false, false, false, false] rfl rfl (any_of HT_.out (by kernel_rfl)) (fun _ _ _ h => h) (Or.inl ⟨by rfl, ?_⟩) ?_ ?_
                          rotate_left
                          · intro w'
                            go_simp
                            with_reducible rfl
                          rotate_left
                          · simp only [Act.put, List.setIfInBounds_toArray, List.set_cons_zero, List.set_cons_succ, i64_w, i32_w]
                            rfl
                          refine pure_ (i := 6) (N := some 103) (v := ?_) (a' := ?_) #[true, true, true, false, false, true, true, false, false, false, false, false, false, false, false, false, false, false, false, false, false] rfl rfl (any_of HT_.out (by kernel_rfl)) (fun _ _ _ h => h) (Or.inl ⟨by rfl, ?_⟩) ?_ ?_
                          rotate_left
                          · intro w'
                            go_simp
                            with_reducible rfl
                          rotate_left
                          · simp only [Act.put, List.setIfInBounds_toArray, List.set_cons_zero, List.set_cons_succ, i64_w, i32_w]
                            rfl
                          refine take_ (i := 7) (N := some 104) (v := ?_) (a' := ?_) #[true, true, true, false, false, true, true, true, false, false, false, false, false, false, false, false, false, false, false, false, false] rfl rfl (take_ofW HT_.out HW_.out (by kernel_rfl)) (fun _ _ _ h => h) (Or.inl ⟨by rfl, ?_⟩) hHeld ?_ ?_
                          rotate_left
                          · rintro w' ⟨s0, s1, s2, s3⟩
                            go_simp
                            with_reducible rfl
                          rotate_left
                          · simp only [Act.put, List.setIfInBounds_toArray, List.set_cons_zero, List.set_cons_succ, i64_w, i32_w]
                            rfl
                          refine pure_ (i := 8) (N := some 105) (v := ?_) (a' := ?_) #[true, true, true, false, false, true, true, true, true, false, false, false, false, false, false, false, false, false, false, false, false] rfl rfl (any_of HT_.out (by kernel_rfl)) (fun _ _ _ h => h) (Or.inl ⟨by rfl, ?_⟩) ?_ ?_
                          rotate_left
                          · intro w'
                            go_simp
                            with_reducible rfl
                          rotate_left
                          · simp only [Act.put, List.setIfInBounds_toArray, List.set_cons_zero, List.set_cons_succ, i64_w, i32_w]
                            rfl
                          refine one_ (i := 3) (N := some 100) #[true, true, true, true, false, true, true, true, true, false, false, false, false, false, false, false, false, false, false, false, false] rfl rfl (one_of HT_.out (by kernel_rfl)) (by decide) (fun K hK => ?_)
                          refine goes_ Try.func23 (by kernel_rfl) rfl #[.pointer (some ⟨g364, 0, none⟩)] (by rfl) rfl rfl (by (try simp only [List.map_toArray, List.map_cons, List.map_nil]); first | done | rfl | (simp only [List.length_drop, List.length_take]; rfl)) ?_
                          with_reducible refine (feed_Feed_Left.calls g364 (fun k_ => some k_ = (u365000 : Value).ownBlock) u365000 x365000_1 (fun k_ => some k_ = (u365001 : Value).ownBlock) u365001 x365001_1 (fun k_ => some k_ = (u365002 : Value).ownBlock) u365002 x365002_1 t413 t414 t417 t420 w _ ?side1 ?side2 ?side3 ?side4 ?side5 ?side6 ?side7 A47.out).mono ?_
                          (case side1 => repeat (first | (with_reducible first | exact HI364.out | apply IsS55.alloc | apply IsS55.drewN | apply IsS55.drew | apply IsS55.set_0 | apply IsS55.set_1 | apply IsS55.set_2 | refine IsS55.far ?_ NB364_352.out _) | exact HI364.out))
                          (case side2 => repeat (first | (with_reducible first | exact HB.out | apply below_alloc | apply pw_below_drewN | apply below_drew1 | refine below_set ?_ (IsS55.ge HI364.out) | refine below_set ?_ GE352.out) | exact HB.out))
                          (case side3 => exact Kd.Q_tight rfl HO_365000.out)
                          (case side4 => exact Kd.Q_tight rfl HO_365001.out)
                          (case side5 => exact fun k_ e_ => (HO_365001.out.1 k_ e_.symm).2.2)
                          (case side6 => exact Kd.Q_tight rfl HO_365002.out)
                          (case side7 => exact fun k_ e_ => (HO_365002.out.1 k_ e_.symm).2.2)
                          rintro e w55 ⟨v415, v418, v421, rfl, ho0, ho1, ho2, hi, hb, hkp⟩
                          refine ⟨_, rfl, ?_⟩
                          have n0_ := Aside0.mk (Kd.R_mono (ok' := fun k_ => some k_ ≠ (u6 : Value).ownBlock ∧ some k_ ≠ (v418 : Value).ownBlock ∧ some k_ ≠ (v421 : Value).ownBlock) (Kd.R_keptB ((IsS55.apart HI364.out (Kd.R_apart' HO_5.out (Kd.Q_typed HO_365000.out) (by decide)) (by decide))) hkp (fun k_ hk_ hs_ => Or.elim hs_ (fun hs_ => Or.elim hs_ (fun e_ => (hk_.1.2) e_) (fun e_ => Or.elim e_ (fun e_ => (hk_.1.1.2.1) e_) (fun e_ => (hk_.1.1.2.2) e_))) (fun e_ => (hk_.2) e_))) (fun k_ hk_ => ⟨hk_.1.1.1.1, fun e_ => Or.elim (ho1.1 k_ e_.symm).1 (fun hs_ => hk_.2.1 (.inl hs_)) (fun hn_ => Nat.not_le.2 hk_.2.2 hn_), fun e_ => Or.elim (ho2.1 k_ e_.symm).1 (fun hs_ => hk_.2.1 (.inl hs_)) (fun hn_ => Nat.not_le.2 hk_.2.2 hn_)⟩))
                          have n1_ := Aside0.mk (Kd.R_mono (ok' := fun k_ => some k_ ≠ (.slice Ao54 x5_1.length co54 : Value).ownBlock ∧ some k_ ≠ (v418 : Value).ownBlock ∧ some k_ ≠ (v421 : Value).ownBlock) (Kd.R_keptB ((IsS55.apart HI364.out (Kd.R_apart' HO_6.out (Kd.Q_typed HO_365000.out) (by decide)) (by decide))) hkp (fun k_ hk_ hs_ => Or.elim hs_ (fun hs_ => Or.elim hs_ (fun e_ => (hk_.1.2) e_) (fun e_ => Or.elim e_ (fun e_ => (hk_.1.1.2.1) e_) (fun e_ => (hk_.1.1.2.2) e_))) (fun e_ => (hk_.2) e_))) (fun k_ hk_ => ⟨hk_.1.1.1.1, fun e_ => Or.elim (ho1.1 k_ e_.symm).1 (fun hs_ => hk_.2.1 (.inl hs_)) (fun hn_ => Nat.not_le.2 hk_.2.2 hn_), fun e_ => Or.elim (ho2.1 k_ e_.symm).1 (fun hs_ => hk_.2.1 (.inl hs_)) (fun hn_ => Nat.not_le.2 hk_.2.2 hn_)⟩))
                          have n2_ := Aside0.mk (blk_kept (o := .cells #[.slice A0_0 l0_0.length c0_0, .slice A0_1 l0_1.length c0_1, .slice A0_2 l0_2.length c0_2, .slice A0_3 l0_3.length c0_3] 28 (0, 0)) (by (with_reducible repeat (first | refine blk_drewN ?_ _ | refine blk_drew ?_ | refine blk_alloc ?_ _)); exact BK352.out) hkp (fun hs_ => Or.elim hs_ (fun hs_ => Or.elim hs_ (fun e_ => (fun e_ => (Kd.Q_ne HO_365000.out BK352.out (by decide)) e_) e_) (fun e_ => Or.elim e_ (fun e_ => (fun e_ => (Kd.Q_ne HO_365001.out BK352.out (by decide)) e_) e_) (fun e_ => (fun e_ => (Kd.Q_ne HO_365002.out BK352.out (by decide)) e_) e_))) (fun e_ => NB352_364.out e_)))
                          have n3_ := Aside0.mk (hi)
                          have n4_ := Aside0.mk (Kd.Q_mono (ok' := fun k_ => True) ho0 (fun k_ hk_ => trivial))
                          have n5_ := Aside0.mk (Kd.Q_mono (ok' := fun k_ => some k_ ≠ (v421 : Value).ownBlock ∧ some k_ ≠ (.slice Ao54 x5_1.length co54 : Value).ownBlock ∧ some k_ ≠ (u6 : Value).ownBlock) ho1 (fun k_ hk_ => ⟨hk_.2, Or.elim hk_.1 (fun hs_ => Or.elim hs_ (fun hs_ => fun e_ => ((((IsS55.apart HI364.out (Kd.R_apart' HO_5.out (Kd.Q_typed HO_365000.out) (by decide)) (by decide))).1 k_ e_.symm).1.2) hs_) (fun hs_ => Or.elim hs_ (fun hs_ => fun e_ => ((((IsS55.apart HI364.out (Kd.R_apart' HO_5.out (Kd.Q_typed HO_365000.out) (by decide)) (by decide))).1 k_ e_.symm).1.1.2.1) hs_) (fun hs_ => fun e_ => ((((IsS55.apart HI364.out (Kd.R_apart' HO_5.out (Kd.Q_typed HO_365000.out) (by decide)) (by decide))).1 k_ e_.symm).1.1.2.2) hs_))) (fun hn_ => (Kd.fresh' (Kd.R_lt (by (with_reducible repeat (first | apply Kd.R_alloc | apply Kd.R_drewN | apply Kd.R_drew)); exact HO_5.out)) k_ hn_)), Or.elim hk_.1 (fun hs_ => Or.elim hs_ (fun hs_ => fun e_ => ((((IsS55.apart HI364.out (Kd.R_apart' HO_6.out (Kd.Q_typed HO_365000.out) (by decide)) (by decide))).1 k_ e_.symm).1.2) hs_) (fun hs_ => Or.elim hs_ (fun hs_ => fun e_ => ((((IsS55.apart HI364.out (Kd.R_apart' HO_6.out (Kd.Q_typed HO_365000.out) (by decide)) (by decide))).1 k_ e_.symm).1.1.2.1) hs_) (fun hs_ => fun e_ => ((((IsS55.apart HI364.out (Kd.R_apart' HO_6.out (Kd.Q_typed HO_365000.out) (by decide)) (by decide))).1 k_ e_.symm).1.1.2.2) hs_))) (fun hn_ => (Kd.fresh' (Kd.R_lt (by (with_reducible repeat (first | apply Kd.R_alloc | apply Kd.R_drewN | apply Kd.R_drew)); exact HO_6.out)) k_ hn_))⟩))
                          have n6_ := Aside0.mk (Kd.Q_mono (ok' := fun k_ => some k_ ≠ (v418 : Value).ownBlock ∧ some k_ ≠ (.slice Ao54 x5_1.length co54 : Value).ownBlock ∧ some k_ ≠ (u6 : Value).ownBlock) ho2 (fun k_ hk_ => ⟨hk_.2, Or.elim hk_.1 (fun hs_ => Or.elim hs_ (fun hs_ => fun e_ => ((((IsS55.apart HI364.out (Kd.R_apart' HO_5.out (Kd.Q_typed HO_365000.out) (by decide)) (by decide))).1 k_ e_.symm).1.2) hs_) (fun hs_ => Or.elim hs_ (fun hs_ => fun e_ => ((((IsS55.apart HI364.out (Kd.R_apart' HO_5.out (Kd.Q_typed HO_365000.out) (by decide)) (by decide))).1 k_ e_.symm).1.1.2.1) hs_) (fun hs_ => fun e_ => ((((IsS55.apart HI364.out (Kd.R_apart' HO_5.out (Kd.Q_typed HO_365000.out) (by decide)) (by decide))).1 k_ e_.symm).1.1.2.2) hs_))) (fun hn_ => (Kd.fresh' (Kd.R_lt (by (with_reducible repeat (first | apply Kd.R_alloc | apply Kd.R_drewN | apply Kd.R_drew)); exact HO_5.out)) k_ hn_)), Or.elim hk_.1 (fun hs_ => Or.elim hs_ (fun hs_ => fun e_ => ((((IsS55.apart HI364.out (Kd.R_apart' HO_6.out (Kd.Q_typed HO_365000.out) (by decide)) (by decide))).1 k_ e_.symm).1.2) hs_) (fun hs_ => Or.elim hs_ (fun hs_ => fun e_ => ((((IsS55.apart HI364.out (Kd.R_apart' HO_6.out (Kd.Q_typed HO_365000.out) (by decide)) (by decide))).1 k_ e_.symm).1.1.2.1) hs_) (fun hs_ => fun e_ => ((((IsS55.apart HI364.out (Kd.R_apart' HO_6.out (Kd.Q_typed HO_365000.out) (by decide)) (by decide))).1 k_ e_.symm).1.1.2.2) hs_))) (fun hn_ => (Kd.fresh' (Kd.R_lt (by (with_reducible repeat (first | apply Kd.R_alloc | apply Kd.R_drewN | apply Kd.R_drew)); exact HO_6.out)) k_ hn_))⟩))
                          have n7_ := Aside0.mk (hb)
                          clear HO_5
                          clear HO_6
                          clear BK352
                          clear HI364
                          clear HB
                          clear HO_365000
                          clear HO_365001
                          clear HO_365002
                          have HO_5 := n0_
                          have HO_6 := n1_
                          have BK352 := n2_
                          have HI364 := n3_
                          have HO416 := n4_
                          have HO419 := n5_
                          have HO422 := n6_
                          have HB := n7_
                          clear n0_ n1_ n2_ n3_ n4_ n5_ n6_ n7_
                          (try clear hb)
                          (try clear hkp)
                          (try clear ho0)
                          (try clear ho1)
                          (try clear ho2)
                          obtain ⟨i056, hi056, _, hsz56, _⟩ := info_parts info5
                          obtain ⟨hcut56, hA56, hC56⟩ := print_take_of (P := Try.prog) (Value.int .u8) 0 23 5 .i64 Try.underlying23 hi056 hsz56 A0_2 c0_2 l0_2 (x5_1.length : Int) (of_decide_eq_true (by first | (with_reducible assumption) | assumption)) (of_decide_eq_true (by first | (with_reducible assumption) | assumption)) HC0_2.out
                          have HR423 := Aside0.mk (Kd.C_of_reads (h1 := fun _ => rfl) (hA56 _ (Kd.reads_of_C HR0_2.out)))
                          have HC423 := Aside0.mk hC56
                          clear hA56 hC56 hi056 hsz56
                          refine hK.out _ _ ⟨(blk_cell BK352.out 0).trans rfl, (blk_cell BK352.out 1).trans rfl, (blk_cell BK352.out 2).trans rfl, (blk_cell BK352.out 3).trans rfl⟩ (fun hHeld => ?_)
                          clear hK K
                          refine norm_ (a' := ?_) ?_ ?_
                          rotate_left
                          · show Act.put _ (some 100) _ = _
                            simp only [Act.put, List.setIfInBounds_toArray, List.set_cons_zero, List.set_cons_succ, i64_w, i32_w]
                            rfl
                          refine pure_ (i := 4) (N := some 101) (v := ?_) (a' := ?_) #[true, true, true, true, true, true, true, true, true, false, false, false, false, false, false, false, false, false, false, false, false] rfl rfl (any_of HT_.out (by kernel_rfl)) (fun _ _ _ h => h) (Or.inl ⟨by rfl, ?_⟩) ?_ ?_
                          rotate_left
                          · intro w'
                            go_simp
                            with_reducible rfl
                          rotate_left
                          · simp only [Act.put, List.setIfInBounds_toArray, List.set_cons_zero, List.set_cons_succ, i64_w, i32_w]
                            rfl
                          refine pure_ (i := 9) (N := some 106) (v := ?_) (a' := ?_) #[true, true, true, true, true, true, true, true, true, true, false, false, false, false, false, false, false, false, false, false, false] rfl rfl (any_of HT_.out (by kernel_rfl)) (fun _ _ _ h => h) (Or.inl ⟨by rfl, ?_⟩) ?_ ?_
                          rotate_left
                          · intro w'
                            go_simp
                            with_reducible rfl
                          rotate_left
                          · simp only [Act.put, List.setIfInBounds_toArray, List.set_cons_zero, List.set_cons_succ, i64_w, i32_w]
                            rfl
                          refine pure_ (i := 10) (N := some 107) (v := ?_) (a' := ?_) #[true, true, true, true, true, true, true, true, true, true, true, false, false, false, false, false, false, false, false, false, false] rfl rfl (any_of HT_.out (by kernel_rfl)) (fun _ _ _ h => h) (Or.inl ⟨by rfl, ?_⟩) ?_ ?_
                          rotate_left
                          · intro w'
                            go_simp
                            with_reducible rfl
                          rotate_left
                          · simp only [Act.put, List.setIfInBounds_toArray, List.set_cons_zero, List.set_cons_succ, i64_w, i32_w]
                            rfl
                          refine pure_ (i := 11) (N := some 108) (v := ?_) (a' := ?_) #[true, true, true, true, true, true, true, true, true, true, true, true, false, false, false, false, false, false, false, false, false] rfl rfl (any_of HT_.out (by kernel_rfl)) (fun _ _ _ h => h) (Or.inl ⟨by rfl, ?_⟩) ?_ ?_
                          rotate_left
                          · intro w'
                            go_simp
                            with_reducible rfl
                          rotate_left
                          · simp only [Act.put, List.setIfInBounds_toArray, List.set_cons_zero, List.set_cons_succ, i64_w, i32_w]
                            rfl
                          refine pure_ (i := 12) (N := some 109) (v := ?_) (a' := ?_) #[true, true, true, true, true, true, true, true, true, true, true, true, true, false, false, false, false, false, false, false, false] rfl rfl (any_of HT_.out (by kernel_rfl)) (fun _ _ _ h => h) (Or.inl ⟨by rfl, ?_⟩) ?_ ?_
                          rotate_left
                          · intro w'
                            go_simp
                            with_reducible rfl
                          rotate_left
                          · simp only [Act.put, List.setIfInBounds_toArray, List.set_cons_zero, List.set_cons_succ, i64_w, i32_w]
                            rfl
                          refine pure_ (i := 13) (N := some 110) (v := ?_) (a' := ?_) #[true, true, true, true, true, true, true, true, true, true, true, true, true, true, false, false, false, false, false, false, false] rfl rfl (any_of HT_.out (by kernel_rfl)) (fun _ _ _ h => h) (Or.inl ⟨by rfl, ?_⟩) ?_ ?_
                          rotate_left
                          · intro w'
                            go_simp
                            with_reducible rfl
                          rotate_left
                          · simp only [Act.put, List.setIfInBounds_toArray, List.set_cons_zero, List.set_cons_succ, i64_w, i32_w]
                            rfl
                          refine pure_ (i := 15) (N := some 112) (v := ?_) (a' := ?_) #[true, true, true, true, true, true, true, true, true, true, true, true, true, true, false, true, false, false, false, false, false] rfl rfl (any_of HT_.out (by kernel_rfl)) (fun _ _ _ h => h) (Or.inl ⟨by rfl, ?_⟩) ?_ ?_
                          rotate_left
                          · intro w'
                            go_simp
                            with_reducible rfl
                          rotate_left
                          · simp only [Act.put, List.setIfInBounds_toArray, List.set_cons_zero, List.set_cons_succ, i64_w, i32_w]
                            rfl
                          refine pure_ (i := 16) (N := some 113) (v := ?_) (a' := ?_) #[true, true, true, true, true, true, true, true, true, true, true, true, true, true, false, true, true, false, false, false, false] rfl rfl (any_of HT_.out (by kernel_rfl)) (fun _ _ _ h => h) (Or.inl ⟨by rfl, ?_⟩) ?_ ?_
                          rotate_left
                          · intro w'
                            go_simp
                            with_reducible rfl
                          rotate_left
                          · simp only [Act.put, List.setIfInBounds_toArray, List.set_cons_zero, List.set_cons_succ, i64_w, i32_w]
                            rfl
                          refine take_ (i := 14) (N := some 111) (v := ?_) (a' := ?_) #[true, true, true, true, true, true, true, true, true, true, true, true, true, true, true, true, true, false, false, false, false] rfl rfl (take_ofW HT_.out HW_.out (by kernel_rfl)) (fun _ _ _ h => h) (Or.inl ⟨by rfl, ?_⟩) hHeld ?_ ?_
                          rotate_left
                          · rintro w' ⟨s0, s1, s2, s3⟩
                            go_simp
                            with_reducible rfl
                          rotate_left
                          · simp only [Act.put, List.setIfInBounds_toArray, List.set_cons_zero, List.set_cons_succ, i64_w, i32_w]
                            rfl
                          refine pure_ (i := 17) (N := some 114) (v := ?_) (a' := ?_) #[true, true, true, true, true, true, true, true, true, true, true, true, true, true, true, true, true, true, false, false, false] rfl rfl (any_of HT_.out (by kernel_rfl)) (fun _ _ _ h => h) (Or.inl ⟨by rfl, ?_⟩) ?_ ?_
                          rotate_left
                          · intro w'
                            go_simp
                            with_reducible rfl
                          rotate_left
                          · simp only [Act.put, List.setIfInBounds_toArray, List.set_cons_zero, List.set_cons_succ, i64_w, i32_w]
                            rfl
                          refine one_ (i := 18) (N := some 115) #[true, true, true, true, true, true, true, true, true, true, true, true, true, true, true, true, true, true, true, false, false] rfl rfl (one_of HT_.out (by kernel_rfl)) (by decide) (fun K hK => ?_)
                          refine goes_ Try.func20 (by kernel_rfl) rfl #[.slice Ao54 x5_1.length co54, .slice A0_2 (l0_2.take ((x5_1.length : Int) : Int).toNat).length c0_2] (by rfl) rfl rfl (by (try simp only [List.map_toArray, List.map_cons, List.map_nil]); first | done | (rw [show (l0_2.take ((x5_1.length : Int) : Int).toNat).length = (x5_1.length : Int).toNat from (by rw [List.length_take]; have h_ : ((x5_1.length : Int) : Int) ≤ (l0_2.length : Int) := of_decide_eq_true (by first | (with_reducible assumption) | assumption); omega)] <;> rfl) | rfl | (simp only [List.length_drop, List.length_take]; rfl)) ?_
                          with_reducible refine (gangwayref0_EqBytes.calls kj15 _ _ x5_1 _ _ (l0_2.take ((x5_1.length : Int) : Int).toNat) true _ ?side1 ?side2 ?side3 ?side4 A51.out).mono ?_
                          (case side1 => repeat (first | exact (Kd.R_reads' HO_5.out).2.2 | (with_reducible refine Kd.C_alloc ?_ _) | (with_reducible refine Kd.C_drewN ?_ _) | (with_reducible refine Kd.C_drew ?_)))
                          (case side2 => exact (Kd.R_reads' HO_5.out).2.1)
                          (case side3 => repeat (first | exact (Kd.C_below HR423.out HB.out) | (with_reducible refine Kd.C_alloc ?_ _) | (with_reducible refine Kd.C_drewN ?_ _) | (with_reducible refine Kd.C_drew ?_)))
                          (case side4 => exact HC423.out)
                          rintro e w' ⟨rfl, ⟨nd, rfl⟩⟩
                          refine ⟨_, rfl, ?_⟩
                          refine hK.out _ _ ⟨(blk_cell BK352.out 0).trans rfl, (blk_cell BK352.out 1).trans rfl, (blk_cell BK352.out 2).trans rfl, (blk_cell BK352.out 3).trans rfl⟩ (fun hHeld => ?_)
                          clear hK K
                          refine norm_ (a' := ?_) ?_ ?_
                          rotate_left
                          · show Act.put _ (some 115) _ = _
                            simp only [Act.put, List.setIfInBounds_toArray, List.set_cons_zero, List.set_cons_succ, i64_w, i32_w]
                            rfl
                          refine pure_ (i := 19) (N := some 116) (v := ?_) (a' := ?_) #[true, true, true, true, true, true, true, true, true, true, true, true, true, true, true, true, true, true, true, true, false] rfl rfl (any_of HT_.out (by kernel_rfl)) (fun _ _ _ h => h) (Or.inl ⟨by rfl, ?_⟩) ?_ ?_
                          rotate_left
                          · intro w'
                            go_simp
                            with_reducible rfl
                          rotate_left
                          · simp only [Act.put, List.setIfInBounds_toArray, List.set_cons_zero, List.set_cons_succ, i64_w, i32_w]
                            rfl
                          refine pure_ (i := 20) (N := some 117) (v := ?_) (a' := ?_) #[true, true, true, true, true, true, true, true, true, true, true, true, true, true, true, true, true, true, true, true, true] rfl rfl (any_of HT_.out (by kernel_rfl)) (fun _ _ _ h => h) (Or.inl ⟨by rfl, ?_⟩) ?_ ?_
                          rotate_left
                          · intro w'
                            go_simp
                            with_reducible rfl
                          rotate_left
                          · simp only [Act.put, List.setIfInBounds_toArray, List.set_cons_zero, List.set_cons_succ, i64_w, i32_w]
                            rfl
                          refine done_ (done_of HT_.out (by kernel_rfl)) ?_
                          try go_wp2
                          go_loopg [15] kj15 (fun kq v15 w' => ∃ (x15_3 : Int), v15 = .int .i64 x15_3 ∧ Aside0 (gangwaylaw23_FeedParts.l1 kq x6_1 x15_3 l0_0 l0_1 l0_2 l0_3 = some r) ∧ Aside0 (kq ≤ kj15) ∧ Aside0 (Kd.R (Kd.int .u8) 5 w' w.heap.size (fun k_ => some k_ ≠ (v418 : Value).ownBlock ∧ some k_ ≠ (v421 : Value).ownBlock) u6 x6_1) ∧ Aside0 (Kd.Q (Kd.int .i64) 2 w' w.heap.size (fun _ => True) v415 t414) ∧ Aside0 (Kd.Q (Kd.int .u8) 5 w' w.heap.size (fun k_ => some k_ ≠ (u6 : Value).ownBlock ∧ some k_ ≠ (v421 : Value).ownBlock) v418 t417) ∧ Aside0 (Kd.Q (Kd.int .u8) 5 w' w.heap.size (fun k_ => some k_ ≠ (u6 : Value).ownBlock ∧ some k_ ≠ (v418 : Value).ownBlock) v421 t420) ∧ Aside0 (w'.heap[gb352]? = some (.cells #[(.slice A0_0 l0_0.length c0_0), (.slice A0_1 l0_1.length c0_1), (.slice A0_2 l0_2.length c0_2), (.slice A0_3 l0_3.length c0_3)] 28 (0, 0))) ∧ Aside0 (IsS55 w w' g364 v415 v418 v421) ∧ Aside0 (Below w.heap.size w w'))
                          case atStart => exact ⟨(0), (by first | rfl | (simp; done) | (simp [*]; done)), H', ⟨Nat.le_refl _⟩, ⟨by (with_reducible repeat (first | apply Kd.R_alloc | apply Kd.R_drewN | apply Kd.R_drew)); exact Kd.R_mono HO_6.out (fun _ hk => ⟨hk.2.1, hk.2.2⟩)⟩, ⟨by (with_reducible repeat (first | apply Kd.Q_alloc | apply Kd.Q_drewN | apply Kd.Q_drew)); exact HO416.out⟩, ⟨by (with_reducible repeat (first | apply Kd.Q_alloc | apply Kd.Q_drewN | apply Kd.Q_drew)); exact Kd.Q_mono HO419.out (fun _ hk => ⟨hk.2.2, hk.1⟩)⟩, ⟨by (with_reducible repeat (first | apply Kd.Q_alloc | apply Kd.Q_drewN | apply Kd.Q_drew)); exact Kd.Q_mono HO422.out (fun _ hk => ⟨hk.2.2, hk.1⟩)⟩, ⟨by (with_reducible repeat (first | refine blk_drewN ?_ _ | refine blk_drew ?_ | refine blk_alloc ?_ _)); exact BK352.out⟩, ⟨by repeat (first | (with_reducible first | exact HI364.out | apply IsS55.alloc | apply IsS55.drewN | apply IsS55.drew | apply IsS55.set_0 | apply IsS55.set_1 | apply IsS55.set_2 | refine IsS55.far ?_ NB364_352.out _) | exact HI364.out)⟩, ⟨by repeat (first | (with_reducible first | exact HB.out | apply below_alloc | apply pw_below_drewN | apply below_drew1 | refine below_set ?_ (IsS55.ge HI364.out) | refine below_set ?_ GE352.out) | exact HB.out)⟩⟩
                          case round =>
                            clear H'
                            try clear c1
                            try clear c2
                            try clear p2
                            try clear c3
                            try clear p3
                            try clear q3
                            try clear hx3
                            try clear c4
                            try clear c5
                            try clear c6
                            try clear p6
                            try clear c7
                            try clear c8
                            try clear c10
                            try clear c10b0
                            try clear c10b1
                            try clear c15
                            try clear c17
                            try clear c17b0
                            try clear c18
                            try clear c19
                            try clear c20
                            try clear c22
                            try clear c23
                            try clear c23b0
                            try clear c24
                            try clear c24b0
                            try clear c30
                            try clear c30b0
                            try clear c30b1
                            try clear c32
                            try clear c32b0
                            try clear c32b1
                            try clear c33
                            try clear c33b0
                            try clear c33b1
                            try clear c34
                            try clear c34b0
                            try clear c35
                            try clear c35b0
                            try clear c36
                            try clear p36
                            try clear q36
                            try clear hx36
                            try clear c37
                            try clear c38
                            try clear c48
                            try clear c48b0
                            try clear c48b1
                            try clear c49
                            try clear c49b0
                            try clear c49b1
                            try clear c50
                            try clear c50b0
                            try clear c50b1
                            try clear c52
                            try clear hcz12_0
                            try clear hcz12_1
                            try clear hcz12_2
                            try clear hcz12_3
                            try clear hcz14_0
                            try clear hcz14_1
                            try clear hcz14_2
                            try clear hcz14_3
                            try clear hcz19_0
                            try clear hcz19_1
                            try clear hcz19_2
                            try clear hcz19_3
                            try clear hcz21_0
                            try clear hcz21_1
                            try clear hcz21_2
                            try clear hcz21_3
                            try clear hcz39_0
                            try clear hcz39_1
                            try clear hcz39_2
                            try clear hcz39_3
                            try clear hcz5_0
                            try clear hcz5_1
                            try clear hcz5_2
                            try clear hcz5_3
                            try clear hfz12_0
                            try clear hfz12_1
                            try clear hfz12_2
                            try clear hfz12_3
                            try clear hfz14_0
                            try clear hfz14_1
                            try clear hfz14_2
                            try clear hfz14_3
                            try clear hfz19_0
                            try clear hfz19_1
                            try clear hfz19_2
                            try clear hfz19_3
                            try clear hfz21_0
                            try clear hfz21_1
                            try clear hfz21_2
                            try clear hfz21_3
                            try clear hfz39_0
                            try clear hfz39_1
                            try clear hfz39_2
                            try clear hfz39_3
                            try clear hfz5_0
                            try clear hfz5_1
                            try clear hfz5_2
                            try clear hfz5_3
                            try clear hx367_0
                            try clear hx367_1
                            try clear p2
                            try clear p367
                            try clear q367
                            obtain ⟨x15_3, rfl, HA, HK3, HO_6, HO_365000, HO_365001, HO_365002, BK352, HI364, HB⟩ := hrel
                            cases gk with
                            | zero => exact absurd HA.out (by simp [gangwaylaw23_FeedParts.l1])
                            | succ k3 =>
                              have H := HA.out
                              clear HA
                              simp only [gangwaylaw23_FeedParts.l1] at H
                              by_cases c57 : x15_3 < (x6_1.length : Int)
                              · rw [if_pos c57] at H
                                have c57b0 : decide (x15_3 < (x6_1.length : Int)) = true := decide_eq_true c57
                                clear c57
                                by_cases c58 : x15_3 < (l0_1.length : Int)
                                · rw [if_pos c58] at H
                                  have c58b0 : decide (x15_3 < (l0_1.length : Int)) = true := decide_eq_true c58
                                  clear c58
                                  by_cases c59 : 0 ≤ x15_3
                                  · rw [if_pos c59] at H
                                    have c59b0 : decide (0 ≤ x15_3) = true := decide_eq_true c59
                                    clear c59
                                    by_cases c60 : (rd x6_1 x15_3) = (rd l0_1 x15_3)
                                    · rw [if_pos c60] at H
                                      have c60b0 : ((rd x6_1 x15_3) == (rd l0_1 x15_3)) = true := beq_iff_eq.mpr c60
                                      have c60b1 : ((rd x6_1 x15_3) != (rd l0_1 x15_3)) = false := bne_eq_false_iff_eq.mpr c60
                                      clear c60
                                      have H' := Aside0.mk H
                                      clear H
                                      obtain ⟨Ao61, co61, eo61⟩ := Kd.R_slice HO_6.out
                                      subst eo61
                                      have hnb62 := NB352_364.out
                                      have hnc62 := NB364_352.out
                                      have hcz63_0 : wr.cell? ⟨gb352, 0, none⟩ = some (.slice A0_0 l0_0.length c0_0) := (blk_cell BK352.out 0).trans rfl
                                      have hcz63_1 : wr.cell? ⟨gb352, 1, none⟩ = some (.slice A0_1 l0_1.length c0_1) := (blk_cell BK352.out 1).trans rfl
                                      have hcz63_2 : wr.cell? ⟨gb352, 2, none⟩ = some (.slice A0_2 l0_2.length c0_2) := (blk_cell BK352.out 2).trans rfl
                                      have hcz63_3 : wr.cell? ⟨gb352, 3, none⟩ = some (.slice A0_3 l0_3.length c0_3) := (blk_cell BK352.out 3).trans rfl
                                      have hfz63_0 := blk_frozen BK352.out 0
                                      have hfz63_1 := blk_frozen BK352.out 1
                                      have hfz63_2 := blk_frozen BK352.out 2
                                      have hfz63_3 := blk_frozen BK352.out 3
                                      have p426 : 0 ≤ (x15_3 : Int) := of_decide_eq_true (by first | (with_reducible assumption) | assumption)
                                      have q426 : x15_3 < (l0_1.length : Int) := of_decide_eq_true (by first | (with_reducible assumption) | assumption)
                                      obtain ⟨ad426, e426, hx426_0⟩ := Kd.at_int HR0_1.out x15_3 p426 q426
                                      cases e426
                                      replace hx426_0 := (HB.out.cell (World.block_lt_of_cell? w _ hx426_0)).trans hx426_0
                                      replace p426 := eq_true p426
                                      replace q426 := eq_true q426
                                      have p427 : 0 ≤ (x15_3 : Int) := of_decide_eq_true (by first | (with_reducible assumption) | assumption)
                                      have q427 : x15_3 < (x6_1.length : Int) := of_decide_eq_true (by first | (with_reducible assumption) | assumption)
                                      obtain ⟨ad427, e427, hx427_0⟩ := Kd.at_int (Kd.R_reads' HO_6.out).2.2 x15_3 p427 q427
                                      cases e427
                                      replace p427 := eq_true p427
                                      replace q427 := eq_true q427
                                      go_wp2
                                      go_roundg k3
                                      case measure => have := HK1.out; have := HJ15.out; have := HK3.out; omega
                                      case rel => exact ⟨(wrap64 (x15_3 + 1)), (by first | rfl | (simp; done) | (simp [*]; done)), H', ⟨by have := HK1.out; have := HJ15.out; have := HK3.out; omega⟩, ⟨by (with_reducible repeat (first | apply Kd.R_alloc | apply Kd.R_drewN | apply Kd.R_drew)); exact HO_6.out⟩, ⟨by (with_reducible repeat (first | apply Kd.Q_alloc | apply Kd.Q_drewN | apply Kd.Q_drew)); exact HO_365000.out⟩, ⟨by (with_reducible repeat (first | apply Kd.Q_alloc | apply Kd.Q_drewN | apply Kd.Q_drew)); exact HO_365001.out⟩, ⟨by (with_reducible repeat (first | apply Kd.Q_alloc | apply Kd.Q_drewN | apply Kd.Q_drew)); exact HO_365002.out⟩, ⟨by (with_reducible repeat (first | refine blk_drewN ?_ _ | refine blk_drew ?_ | refine blk_alloc ?_ _)); exact BK352.out⟩, ⟨by repeat (first | (with_reducible first | exact HI364.out | apply IsS55.alloc | apply IsS55.drewN | apply IsS55.drew | apply IsS55.set_0 | apply IsS55.set_1 | apply IsS55.set_2 | refine IsS55.far ?_ NB364_352.out _) | exact HI364.out)⟩, ⟨by repeat (first | (with_reducible first | exact HB.out | apply below_alloc | apply pw_below_drewN | apply below_drew1 | refine below_set ?_ (IsS55.ge HI364.out) | refine below_set ?_ GE352.out) | exact HB.out)⟩⟩
                                    · rw [if_neg c60] at H
                                      exact absurd H (by simp)
                                  · rw [if_neg c59] at H
                                    exact absurd H (by simp)
                                · rw [if_neg c58] at H
                                  have c58b0 : decide (x15_3 < (l0_1.length : Int)) = false := decide_eq_false c58
                                  clear c58
                                  by_cases c64 : 0 ≤ x15_3
                                  · rw [if_pos c64] at H
                                    have c64b0 : decide (0 ≤ x15_3) = true := decide_eq_true c64
                                    clear c64
                                    by_cases c65 : (rd x6_1 x15_3) = 0
                                    · rw [if_pos c65] at H
                                      have c65b0 : ((rd x6_1 x15_3) == 0) = true := beq_iff_eq.mpr c65
                                      have c65b1 : ((rd x6_1 x15_3) != 0) = false := bne_eq_false_iff_eq.mpr c65
                                      clear c65
                                      have H' := Aside0.mk H
                                      clear H
                                      obtain ⟨Ao66, co66, eo66⟩ := Kd.R_slice HO_6.out
                                      subst eo66
                                      have hnb67 := NB352_364.out
                                      have hnc67 := NB364_352.out
                                      have hcz68_0 : wr.cell? ⟨gb352, 0, none⟩ = some (.slice A0_0 l0_0.length c0_0) := (blk_cell BK352.out 0).trans rfl
                                      have hcz68_1 : wr.cell? ⟨gb352, 1, none⟩ = some (.slice A0_1 l0_1.length c0_1) := (blk_cell BK352.out 1).trans rfl
                                      have hcz68_2 : wr.cell? ⟨gb352, 2, none⟩ = some (.slice A0_2 l0_2.length c0_2) := (blk_cell BK352.out 2).trans rfl
                                      have hcz68_3 : wr.cell? ⟨gb352, 3, none⟩ = some (.slice A0_3 l0_3.length c0_3) := (blk_cell BK352.out 3).trans rfl
                                      have hfz68_0 := blk_frozen BK352.out 0
                                      have hfz68_1 := blk_frozen BK352.out 1
                                      have hfz68_2 := blk_frozen BK352.out 2
                                      have hfz68_3 := blk_frozen BK352.out 3
                                      have p428 : 0 ≤ (x15_3 : Int) := of_decide_eq_true (by first | (with_reducible assumption) | assumption)
                                      have q428 : x15_3 < (x6_1.length : Int) := of_decide_eq_true (by first | (with_reducible assumption) | assumption)
                                      obtain ⟨ad428, e428, hx428_0⟩ := Kd.at_int (Kd.R_reads' HO_6.out).2.2 x15_3 p428 q428
                                      cases e428
                                      replace p428 := eq_true p428
                                      replace q428 := eq_true q428
                                      go_wp2
                                      go_roundg k3
                                      case measure => have := HK1.out; have := HJ15.out; have := HK3.out; omega
                                      case rel => exact ⟨(wrap64 (x15_3 + 1)), (by first | rfl | (simp; done) | (simp [*]; done)), H', ⟨by have := HK1.out; have := HJ15.out; have := HK3.out; omega⟩, ⟨by (with_reducible repeat (first | apply Kd.R_alloc | apply Kd.R_drewN | apply Kd.R_drew)); exact HO_6.out⟩, ⟨by (with_reducible repeat (first | apply Kd.Q_alloc | apply Kd.Q_drewN | apply Kd.Q_drew)); exact HO_365000.out⟩, ⟨by (with_reducible repeat (first | apply Kd.Q_alloc | apply Kd.Q_drewN | apply Kd.Q_drew)); exact HO_365001.out⟩, ⟨by (with_reducible repeat (first | apply Kd.Q_alloc | apply Kd.Q_drewN | apply Kd.Q_drew)); exact HO_365002.out⟩, ⟨by (with_reducible repeat (first | refine blk_drewN ?_ _ | refine blk_drew ?_ | refine blk_alloc ?_ _)); exact BK352.out⟩, ⟨by repeat (first | (with_reducible first | exact HI364.out | apply IsS55.alloc | apply IsS55.drewN | apply IsS55.drew | apply IsS55.set_0 | apply IsS55.set_1 | apply IsS55.set_2 | refine IsS55.far ?_ NB364_352.out _) | exact HI364.out)⟩, ⟨by repeat (first | (with_reducible first | exact HB.out | apply below_alloc | apply pw_below_drewN | apply below_drew1 | refine below_set ?_ (IsS55.ge HI364.out) | refine below_set ?_ GE352.out) | exact HB.out)⟩⟩
                                    · rw [if_neg c65] at H
                                      exact absurd H (by simp)
                                  · rw [if_neg c64] at H
                                    exact absurd H (by simp)
                              · rw [if_neg c57] at H
                                have c57b0 : decide (x15_3 < (x6_1.length : Int)) = false := decide_eq_false c57
                                clear c57
                                replace H := Option.bind_eq_some_iff.mp H
                                obtain ⟨t425, A690, H⟩ := H
                                replace H : (some t425) = some r := H
                                have A69 := Aside0.mk A690
                                clear A690
                                obtain rfl := Option.some.inj H
                                obtain ⟨Ao70, co70, eo70⟩ := Kd.R_slice HO_6.out
                                subst eo70
                                go_wp2_with (first | ((with_reducible refine gate_callee (f := 9) rfl ?_); refine goesL_ (some 142) rfl rfl Try.func9 (by kernel_rfl) rfl #[] rfl (by (try simp only [List.map_toArray, List.map_cons, List.map_nil]); first | done | rfl | (simp only [List.length_drop, List.length_take]; rfl)) ?_; (with_reducible refine (gangwaylaw23_wakes.calls k3  t425 _ A69.out).mono ?_); rintro e w71 ⟨rfl, hb⟩; refine ⟨_, rfl, ?_⟩; have n0_ := Aside0.mk (Kd.R_below (by (with_reducible repeat (first | apply Kd.R_alloc | apply Kd.R_drewN | apply Kd.R_drew)); exact HO_6.out) hb); have n1_ := Aside0.mk (Kd.Q_below (by (with_reducible repeat (first | apply Kd.Q_alloc | apply Kd.Q_drewN | apply Kd.Q_drew)); exact HO_365000.out) hb); have n2_ := Aside0.mk (Kd.Q_below (by (with_reducible repeat (first | apply Kd.Q_alloc | apply Kd.Q_drewN | apply Kd.Q_drew)); exact HO_365001.out) hb); have n3_ := Aside0.mk (Kd.Q_below (by (with_reducible repeat (first | apply Kd.Q_alloc | apply Kd.Q_drewN | apply Kd.Q_drew)); exact HO_365002.out) hb); have n4_ := Aside0.mk (blk_below (g := gb352) (o := .cells #[.slice A0_0 l0_0.length c0_0, .slice A0_1 l0_1.length c0_1, .slice A0_2 l0_2.length c0_2, .slice A0_3 l0_3.length c0_3] 28 (0, 0)) (by (with_reducible repeat (first | refine blk_drewN ?_ _ | refine blk_drew ?_ | refine blk_alloc ?_ _)); exact BK352.out) hb); have n5_ := Aside0.mk (IsS55.below (by repeat (first | (with_reducible first | exact HI364.out | apply IsS55.alloc | apply IsS55.drewN | apply IsS55.drew | apply IsS55.set_0 | apply IsS55.set_1 | apply IsS55.set_2 | refine IsS55.far ?_ NB364_352.out _) | exact HI364.out)) hb); have n6_ := Aside0.mk (below_step (by repeat (first | (with_reducible first | exact HB.out | apply below_alloc | apply pw_below_drewN | apply below_drew1 | refine below_set ?_ (IsS55.ge HI364.out) | refine below_set ?_ GE352.out) | exact HB.out)) hb); clear HO_6; clear HO_365000; clear HO_365001; clear HO_365002; clear BK352; clear HI364; clear HB; have HO_6 := n0_; have HO_365000 := n1_; have HO_365001 := n2_; have HO_365002 := n3_; have BK352 := n4_; have HI364 := n5_; have HB := n6_; clear n0_ n1_ n2_ n3_ n4_ n5_ n6_; (try clear hb); (try clear hb2); (try clear hk); (try clear hi)))
                                go_ret
                                exact ⟨by first | rfl | (simp [errW_none, errW_some] <;> rfl) | (simp [*, errW_none, errW_some] <;> rfl), by repeat (first | (with_reducible first | exact HB.out | apply below_alloc | apply pw_below_drewN | apply below_drew1 | refine below_set ?_ (IsS55.ge HI364.out) | refine below_set ?_ GE352.out) | exact HB.out)⟩
                        · replace c52 := Bool.eq_false_iff.mpr c52
                          subst c52
                          have H1 : (none) = some r := by rw [if_neg (show ¬ (false = true) by decide)] at H; exact H
                          clear H
                          have H := H1
                          clear H1
                          exact absurd H (by simp)
                      · rw [if_neg c50] at H
                        exact absurd H (by simp)
                    · rw [if_neg c49] at H
                      exact absurd H (by simp)
                  · rw [if_neg c48] at H
                    exact absurd H (by simp)
      · rw [if_neg c10] at H
        exact absurd H (by simp)
    · replace c8 := Bool.eq_false_iff.mpr c8
      subst c8
      have H1 : ((gangwaylaw23_num.f t365).bind fun t429 => (if t429 = 0 then (none) else ((gangwaylaw23_wakes.f k).bind fun t430 => (some t430)))) = some r := by rw [if_neg (show ¬ (false = true) by decide)] at H; exact H
      clear H
      have H := H1
      clear H1
      replace H := Option.bind_eq_some_iff.mp H
      obtain ⟨t429, A720, H⟩ := H
      replace H : (if t429 = 0 then (none) else ((gangwaylaw23_wakes.f k).bind fun t430 => (some t430))) = some r := H
      have A72 := Aside0.mk A720
      clear A720
      by_cases c73 : t429 = 0
      · rw [if_pos c73] at H
        exact absurd H (by simp)
      · rw [if_neg c73] at H
        have c73b0 : (t429 == 0) = false := beq_eq_false_iff_ne.mpr c73
        have c73b1 : (t429 != 0) = true := bne_iff_ne.mpr c73
        replace H := Option.bind_eq_some_iff.mp H
        obtain ⟨t430, A740, H⟩ := H
        replace H : (some t430) = some r := H
        have A74 := Aside0.mk A740
        clear A740
        obtain rfl := Option.some.inj H
        go_enter Try.func5, Try.ntmps5
        go_wp2_with (first | ((with_reducible refine gate_dst (N := 1) rfl ?_); (try (refine gate_guard (by rfl) ?_; dsimp only)); refine box_event ?hg (N := 1) ?hd (cs := #[.slice A0_0 l0_0.length c0_0, .slice A0_1 l0_1.length c0_1, .slice A0_2 l0_2.length c0_2, .slice A0_3 l0_3.length c0_3]) (t := 28) ?hr ?_; (case hd => rfl); (case hg => rfl); (case hr => first | (go_simp; done) | (go_simp; rfl)); intro gb352 hg w75 hbox hb; have n0_ := Aside0.mk (below_step (by repeat (first | (with_reducible first | exact HB.out | apply below_alloc | apply pw_below_drewN | apply below_drew1) | exact HB.out)) hb); have n1_ := Aside0.mk (hbox); have n2_ := Aside0.mk ((by rw [hg]; exact (below_size (by repeat (first | (with_reducible first | exact HB.out | apply below_alloc | apply pw_below_drewN | apply below_drew1) | exact HB.out))) : w.heap.size ≤ gb352)); have n3_ := Aside0.mk ((by rw [hg]; exact (below_size (by repeat (first | (with_reducible first | exact HB.out | apply below_alloc | apply pw_below_drewN | apply below_drew1) | exact HB.out))) : w.heap.size ≤ gb352)); clear HB; have HB := n0_; have BK352 := n1_; have GW352 := n2_; have GE352 := n3_; clear n0_ n1_ n2_ n3_; clear hb hbox hg; have hcz76_0 : w75.cell? ⟨gb352, 0, none⟩ = some (.slice A0_0 l0_0.length c0_0) := (blk_cell BK352.out 0).trans rfl; have hcz76_1 : w75.cell? ⟨gb352, 1, none⟩ = some (.slice A0_1 l0_1.length c0_1) := (blk_cell BK352.out 1).trans rfl; have hcz76_2 : w75.cell? ⟨gb352, 2, none⟩ = some (.slice A0_2 l0_2.length c0_2) := (blk_cell BK352.out 2).trans rfl; have hcz76_3 : w75.cell? ⟨gb352, 3, none⟩ = some (.slice A0_3 l0_3.length c0_3) := (blk_cell BK352.out 3).trans rfl; have hfz76_0 := blk_frozen BK352.out 0; have hfz76_1 := blk_frozen BK352.out 1; have hfz76_2 := blk_frozen BK352.out 2; have hfz76_3 := blk_frozen BK352.out 3) | ((with_reducible refine gate_callee (f := 6) rfl ?_); refine goesL_ (some 18) rfl rfl Try.func6 (by kernel_rfl) rfl #[.agg #[.slice A0_0 l0_0.length c0_0, .slice A0_1 l0_1.length c0_1, .slice A0_2 l0_2.length c0_2, .slice A0_3 l0_3.length c0_3]] rfl (by (try simp only [List.map_toArray, List.map_cons, List.map_nil]); first | done | rfl | (simp only [List.length_drop, List.length_take]; rfl)) ?_; (with_reducible refine (gangwaylaw23_heavy.calls k _ _ l0_0 _ _ l0_1 _ _ l0_2 _ _ l0_3 false _ ?side1 ?side2 ?side3 ?side4 ?side5 ?side6 ?side7 ?side8 A2.out).mono ?_); (case side1 => repeat (first | exact (Kd.C_below HR0_0.out HB.out) | (with_reducible refine Kd.C_alloc ?_ _) | (with_reducible refine Kd.C_drewN ?_ _) | (with_reducible refine Kd.C_drew ?_))); (case side2 => exact HC0_0.out); (case side3 => repeat (first | exact (Kd.C_below HR0_1.out HB.out) | (with_reducible refine Kd.C_alloc ?_ _) | (with_reducible refine Kd.C_drewN ?_ _) | (with_reducible refine Kd.C_drew ?_))); (case side4 => exact HC0_1.out); (case side5 => repeat (first | exact (Kd.C_below HR0_2.out HB.out) | (with_reducible refine Kd.C_alloc ?_ _) | (with_reducible refine Kd.C_drewN ?_ _) | (with_reducible refine Kd.C_drew ?_))); (case side6 => exact HC0_2.out); (case side7 => repeat (first | exact (Kd.C_below HR0_3.out HB.out) | (with_reducible refine Kd.C_alloc ?_ _) | (with_reducible refine Kd.C_drewN ?_ _) | (with_reducible refine Kd.C_drew ?_))); (case side8 => exact HC0_3.out); rintro e w77 ⟨rfl, hb⟩; refine ⟨_, rfl, ?_⟩; have n0_ := Aside0.mk (blk_below (g := gb352) (o := .cells #[.slice A0_0 l0_0.length c0_0, .slice A0_1 l0_1.length c0_1, .slice A0_2 l0_2.length c0_2, .slice A0_3 l0_3.length c0_3] 28 (0, 0)) (by (with_reducible repeat (first | refine blk_drewN ?_ _ | refine blk_drew ?_ | refine blk_alloc ?_ _)); exact BK352.out) hb); have n1_ := Aside0.mk (below_step (by repeat (first | (with_reducible first | exact HB.out | apply below_alloc | apply pw_below_drewN | apply below_drew1 | refine below_set ?_ GE352.out) | exact HB.out)) hb); clear BK352; clear HB; have BK352 := n0_; have HB := n1_; clear n0_ n1_; (try clear hb); (try clear hb2); (try clear hk); (try clear hi); have hcz78_0 : w77.cell? ⟨gb352, 0, none⟩ = some (.slice A0_0 l0_0.length c0_0) := (blk_cell BK352.out 0).trans rfl; have hcz78_1 : w77.cell? ⟨gb352, 1, none⟩ = some (.slice A0_1 l0_1.length c0_1) := (blk_cell BK352.out 1).trans rfl; have hcz78_2 : w77.cell? ⟨gb352, 2, none⟩ = some (.slice A0_2 l0_2.length c0_2) := (blk_cell BK352.out 2).trans rfl; have hcz78_3 : w77.cell? ⟨gb352, 3, none⟩ = some (.slice A0_3 l0_3.length c0_3) := (blk_cell BK352.out 3).trans rfl; have hfz78_0 := blk_frozen BK352.out 0; have hfz78_1 := blk_frozen BK352.out 1; have hfz78_2 := blk_frozen BK352.out 2; have hfz78_3 := blk_frozen BK352.out 3) | ((with_reducible refine gate_callee (f := 7) rfl ?_); refine goesL_ (some 22) rfl rfl Try.func7 (by kernel_rfl) rfl #[.agg #[.slice A0_0 l0_0.length c0_0, .slice A0_1 l0_1.length c0_1, .slice A0_2 l0_2.length c0_2]] rfl (by (try simp only [List.map_toArray, List.map_cons, List.map_nil]); first | done | rfl | (simp only [List.length_drop, List.length_take]; rfl)) ?_; (with_reducible refine (feed_New.calls k _ _ l0_0 _ _ l0_1 _ _ l0_2 false t355 t358 t361 t365 _ ?side1 ?side2 ?side3 ?side4 ?side5 ?side6 A7.out).mono ?_); (case side1 => repeat (first | exact (Kd.C_below HR0_0.out HB.out) | (with_reducible refine Kd.C_alloc ?_ _) | (with_reducible refine Kd.C_drewN ?_ _) | (with_reducible refine Kd.C_drew ?_))); (case side2 => exact HC0_0.out); (case side3 => repeat (first | exact (Kd.C_below HR0_1.out HB.out) | (with_reducible refine Kd.C_alloc ?_ _) | (with_reducible refine Kd.C_drewN ?_ _) | (with_reducible refine Kd.C_drew ?_))); (case side4 => exact HC0_1.out); (case side5 => repeat (first | exact (Kd.C_below HR0_2.out HB.out) | (with_reducible refine Kd.C_alloc ?_ _) | (with_reducible refine Kd.C_drewN ?_ _) | (with_reducible refine Kd.C_drew ?_))); (case side6 => exact HC0_2.out); rintro e w79 ⟨v356, v359, v362, pz364, rfl, ho0, ho1, ho2, hz364, hb⟩; refine ⟨_, rfl, ?_⟩; have n0_ := Aside0.mk (Kd.Q_lower ho0 (below_size (by repeat (first | (with_reducible first | exact HB.out | apply below_alloc | apply pw_below_drewN | apply below_drew1 | refine below_set ?_ GE352.out) | exact HB.out)))); have n1_ := Aside0.mk (Kd.Q_lower ho1 (below_size (by repeat (first | (with_reducible first | exact HB.out | apply below_alloc | apply pw_below_drewN | apply below_drew1 | refine below_set ?_ GE352.out) | exact HB.out)))); have n2_ := Aside0.mk (Kd.Q_lower ho2 (below_size (by repeat (first | (with_reducible first | exact HB.out | apply below_alloc | apply pw_below_drewN | apply below_drew1 | refine below_set ?_ GE352.out) | exact HB.out)))); have n3_ := Aside0.mk (blk_below (g := gb352) (o := .cells #[.slice A0_0 l0_0.length c0_0, .slice A0_1 l0_1.length c0_1, .slice A0_2 l0_2.length c0_2, .slice A0_3 l0_3.length c0_3] 28 (0, 0)) (by (with_reducible repeat (first | refine blk_drewN ?_ _ | refine blk_drew ?_ | refine blk_alloc ?_ _)); exact BK352.out) hb); have n4_ := Aside0.mk ((show (false = true → ∃ g_ : Nat, pz364 = .pointer (some ⟨g_, 0, none⟩) ∧ IsS55 w w79 g_ v356 v359 v362 ∧ gb352 ≠ g_) ∧ (false = false → pz364 = .pointer none) from ⟨fun h_ => (hz364.1 h_).elim fun g_ hg_ => ⟨g_, hg_.1, hg_.2.lower ((below_size (by repeat (first | (with_reducible first | exact HB.out | apply below_alloc | apply pw_below_drewN | apply below_drew1 | refine below_set ?_ GE352.out) | exact HB.out)))), Nat.ne_of_lt (Nat.lt_of_lt_of_le (blk_lt (g := gb352) (o := .cells #[.slice A0_0 l0_0.length c0_0, .slice A0_1 l0_1.length c0_1, .slice A0_2 l0_2.length c0_2, .slice A0_3 l0_3.length c0_3] 28 (0, 0)) (by (with_reducible repeat (first | refine blk_drewN ?_ _ | refine blk_drew ?_ | refine blk_alloc ?_ _)); exact BK352.out)) hg_.2.ge)⟩, hz364.2⟩)); have n5_ := Aside0.mk (below_step (by repeat (first | (with_reducible first | exact HB.out | apply below_alloc | apply pw_below_drewN | apply below_drew1 | refine below_set ?_ GE352.out) | exact HB.out)) hb); clear BK352; clear HB; have HO357 := n0_; have HO360 := n1_; have HO363 := n2_; have BK352 := n3_; have HZ364 := n4_; have HB := n5_; clear n0_ n1_ n2_ n3_ n4_ n5_; (try clear hb); (try clear hb2); (try clear hk); (try clear hi); (try clear ho0); (try clear ho1); (try clear ho2); have e_ := HZ364.out.2 rfl; subst e_; clear HZ364) | ((with_reducible refine gate_callee (f := 8) rfl ?_); refine goesL_ (some 26) rfl rfl Try.func8 (by kernel_rfl) rfl #[.int .i64 t365] rfl (by (try simp only [List.map_toArray, List.map_cons, List.map_nil]); first | done | rfl | (simp only [List.length_drop, List.length_take]; rfl)) ?_; (with_reducible refine (gangwaylaw23_num.calls t365 t429 _ A72.out).mono ?_); rintro e w' ⟨rfl, ⟨nd, rfl⟩⟩; refine ⟨_, rfl, ?_⟩) | (go_at_call 9; (with_reducible refine (gangwaylaw23_wakes.calls k  t430 _ A74.out).mono ?_); rintro e w80 ⟨rfl, hb⟩; have n0_ := Aside0.mk (Kd.Q_below (by (with_reducible repeat (first | apply Kd.Q_alloc | apply Kd.Q_drewN | apply Kd.Q_drew)); exact HO357.out) hb); have n1_ := Aside0.mk (Kd.Q_below (by (with_reducible repeat (first | apply Kd.Q_alloc | apply Kd.Q_drewN | apply Kd.Q_drew)); exact HO360.out) hb); have n2_ := Aside0.mk (Kd.Q_below (by (with_reducible repeat (first | apply Kd.Q_alloc | apply Kd.Q_drewN | apply Kd.Q_drew)); exact HO363.out) hb); have n3_ := Aside0.mk (blk_below (g := gb352) (o := .cells #[.slice A0_0 l0_0.length c0_0, .slice A0_1 l0_1.length c0_1, .slice A0_2 l0_2.length c0_2, .slice A0_3 l0_3.length c0_3] 28 (0, 0)) (by (with_reducible repeat (first | refine blk_drewN ?_ _ | refine blk_drew ?_ | refine blk_alloc ?_ _)); exact BK352.out) hb); have n4_ := Aside0.mk (below_step (by repeat (first | (with_reducible first | exact HB.out | apply below_alloc | apply pw_below_drewN | apply below_drew1 | refine below_set ?_ GE352.out) | exact HB.out)) hb); clear HO357; clear HO360; clear HO363; clear BK352; clear HB; have HO357 := n0_; have HO360 := n1_; have HO363 := n2_; have BK352 := n3_; have HB := n4_; clear n0_ n1_ n2_ n3_ n4_; (try clear hb); (try clear hb2); (try clear hk); (try clear hi)))
        go_ret
        exact ⟨by first | rfl | (simp [errW_none, errW_some] <;> rfl) | (simp [*, errW_none, errW_some] <;> rfl), by repeat (first | (with_reducible first | exact HB.out | apply below_alloc | apply pw_below_drewN | apply below_drew1 | refine below_set ?_ GE352.out) | exact HB.out)⟩

/-- THE ONE PURE STATEMENT of gangwaylaw23_FeedParts: yours. -/
def gangwaylaw23_FeedParts.Pure : Prop := ∀ (x0 : S28), okT28 x0 → ∃ k, gangwaylaw23_FeedParts.f k x0.f0.f0 x0.f0.f1 x0.f0.f2 x0.f1 = some true
theorem gangwaylaw23_FeedParts.walk (P : gangwaylaw23_FeedParts.Pure) (w : World) (x0 : S28) (A0_0 : Option Addr) (c0_0 : Nat) (A0_1 : Option Addr) (c0_1 : Nat) (A0_2 : Option Addr) (c0_2 : Nat) (A0_3 : Option Addr) (c0_3 : Nat) (hr0_0 : Kd.C (Kd.int .i64) w A0_0 x0.f0.f0.length x0.f0.f0) (hc0_0 : x0.f0.f0.length ≤ c0_0) (hr0_1 : Kd.C (Kd.int .u8) w A0_1 x0.f0.f1.length x0.f0.f1) (hc0_1 : x0.f0.f1.length ≤ c0_1) (hr0_2 : Kd.C (Kd.int .u8) w A0_2 x0.f0.f2.length x0.f0.f2) (hc0_2 : x0.f0.f2.length ≤ c0_2) (hr0_3 : Kd.C k45 w A0_3 x0.f1.length x0.f1) (hc0_3 : x0.f1.length ≤ c0_3) (hok0 : okT28 x0) :
    Calls Try.prog 5 #[.agg #[.slice A0_0 x0.f0.f0.length c0_0, .slice A0_1 x0.f0.f1.length c0_1, .slice A0_2 x0.f0.f2.length c0_2, .slice A0_3 x0.f1.length c0_3]] w fun e w' => e = .returned (.bool true) ∧ Below w.heap.size w w' := by
  obtain ⟨k, h⟩ := P x0 hok0
  refine (gangwaylaw23_FeedParts.calls k _ _ x0.f0.f0 _ _ x0.f0.f1 _ _ x0.f0.f2 _ _ x0.f1 true w hr0_0 hc0_0 hr0_1 hc0_1 hr0_2 hc0_2 hr0_3 hc0_3 h).mono ?_
  rintro e w' ⟨rfl, hd⟩
  exact ⟨rfl, hd⟩

end Go.Proofs.Ytjpnjbpbajaloaa.PAll
