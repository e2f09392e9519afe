/- Printed by a copy of the printer that was turned for this claim: functions as plain Lean functions, with proofs that their calls come to these; or words that such proofs use. -/
import Derived.Test.YtlahigmoljflkaaPAllx0
import Derived.Test.YtlahigmoljflkaaPAllx11
import Derived.Test.YtlahigmoljflkaaPAllx12
namespace Go.Proofs.Ytlahigmoljflkaa.PAll
open Go.RowKit Go.Proofs.YtlahigmoljflkaaW.PrintWords Go.Proofs.YtlahigmoljflkaaW.PrintLast Go.Proofs.YtlahigmoljflkaaW.PrintMore
attribute [local go_sem] max2_int min2_int max_two min_two max_three min_three max_four min_four   -- for this text's walks alone
set_option linter.unusedVariables false
set_option linter.unusedSimpArgs false

theorem gangwayref5_May.q.cn {w : World} {g : Nat} {t : TypeId} {v0 v1 v2 v3 v4 v5 v6 v7 v8 : Value} (h : Aside0 (w.heap[g]? = some (.cells #[v0, v1, v2, v3, v4, v5, v6, v7, v8] t (0, 0)))) : w.cell? ⟨g, 0, none⟩ = some v0 ∧ w.cell? ⟨g, 1, none⟩ = some v1 ∧ w.cell? ⟨g, 2, none⟩ = some v2 ∧ w.cell? ⟨g, 3, none⟩ = some v3 ∧ w.cell? ⟨g, 4, none⟩ = some v4 ∧ w.cell? ⟨g, 5, none⟩ = some v5 ∧ w.cell? ⟨g, 6, none⟩ = some v6 ∧ w.cell? ⟨g, 7, none⟩ = some v7 ∧ w.cell? ⟨g, 8, none⟩ = some v8 ∧ w.frozen? ⟨g, 0, none⟩ = false ∧ w.frozen? ⟨g, 1, none⟩ = false ∧ w.frozen? ⟨g, 2, none⟩ = false ∧ w.frozen? ⟨g, 3, none⟩ = false ∧ w.frozen? ⟨g, 4, none⟩ = false ∧ w.frozen? ⟨g, 5, none⟩ = false ∧ w.frozen? ⟨g, 6, none⟩ = false ∧ w.frozen? ⟨g, 7, none⟩ = false ∧ w.frozen? ⟨g, 8, none⟩ = false := ⟨(blk_cell h.out 0).trans rfl, (blk_cell h.out 1).trans rfl, (blk_cell h.out 2).trans rfl, (blk_cell h.out 3).trans rfl, (blk_cell h.out 4).trans rfl, (blk_cell h.out 5).trans rfl, (blk_cell h.out 6).trans rfl, (blk_cell h.out 7).trans rfl, (blk_cell h.out 8).trans rfl, blk_frozen h.out 0, blk_frozen h.out 1, blk_frozen h.out 2, blk_frozen h.out 3, blk_frozen h.out 4, blk_frozen h.out 5, blk_frozen h.out 6, blk_frozen h.out 7, blk_frozen h.out 8⟩
abbrev gangwayref5_May.q.t : Bool := true
theorem gangwayref5_May.q.bc {w : World} {g : Nat} {cs : Array Value} {t : TypeId} (h : Aside0 (w.heap[g]? = some (.cells cs t (0, 0)))) (i : Nat) {v : Value} (e : cs[i]? = some v := by rfl) : w.cell? ⟨g, i, none⟩ = some v := (blk_cell h.out i).trans e
theorem gangwayref5_May.q.bbelow {W0 w w1 : World} {g : Nat} {o : Obj} (_b : Aside0 (W0.heap[g]? = some o)) (h : w.heap[g]? = some o) (hb : Below w.heap.size w w1) : w1.heap[g]? = some o := blk_below h hb
theorem gangwayref5_May.q.e1 {α : Type _} (xs : List α) (i : Nat) (a : α) : xs.toArray.setIfInBounds i a = (xs.set i a).toArray := by simp
theorem gangwayref5_May.q.e2 {α : Type _} (x a : α) (xs : List α) : (x :: xs).set 0 a = a :: xs := rfl
theorem gangwayref5_May.q.e3 {α : Type _} (x a : α) (xs : List α) (n : Nat) : (x :: xs).set (n + 1) a = x :: xs.set n a := rfl
theorem gangwayref5_May.q.up {w w' : World} {a : Addr} {v : Value} (hb : Aside0 (Below w.heap.size w w')) (h : w.cell? a = some v) : w'.cell? a = some v := (hb.out.cell (World.block_lt_of_cell? w _ h)).trans h
theorem gangwayref5_May.q.aa_0 {p : Prop} (h : p := by first | rfl | (simp; done) | (simp [*]; done)) : p := h
theorem gangwayref5_May.q.aa_1 {p : Prop} (h : p := by repeat (first | (with_reducible first | exact HB.out | apply below_alloc | apply pw_below_drewN | apply below_drew1 | refine below_set ?_ GE280.out | refine below_set ?_ GE281.out) | exact HB.out)) : p := h
theorem gangwayref5_May.q.aa_2 {p : Prop} (h : p := by (with_reducible repeat (first | refine blk_drewN ?_ _ | refine blk_drew ?_ | refine blk_alloc ?_ _)); refine blk_put (cs := #[.int .i64 a0_0, .int .i64 a0_1, .int .i64 0, .int .i64 0, .int .i64 0, .int .i64 0, .slice none 0 0, .slice none 0 0, .slice none 0 0]) ?_ 7 _ rfl; (with_reducible repeat (first | refine blk_drewN ?_ _ | refine blk_drew ?_ | refine blk_alloc ?_ _)); refine blk_put (cs := #[.int .i64 a0_0, .int .i64 0, .int .i64 0, .int .i64 0, .int .i64 0, .int .i64 0, .slice none 0 0, .slice none 0 0, .slice none 0 0]) ?_ 1 _ rfl; (with_reducible repeat (first | refine blk_drewN ?_ _ | refine blk_drew ?_ | refine blk_alloc ?_ _)); exact BK281.out) : p := h
theorem gangwayref5_May.q.aa_3 {p : Prop} (h : p := by repeat (first | (with_reducible first | exact HB.out | apply below_alloc | apply pw_below_drewN | apply below_drew1 | refine below_set ?_ GE280.out) | exact HB.out)) : p := h
theorem gangwayref5_May.q.aa_4 {p : Prop} (h : p := by (with_reducible repeat (first | refine blk_drewN ?_ _ | refine blk_drew ?_ | refine blk_alloc ?_ _)); refine blk_far ?_ NB280_281.out _; (with_reducible repeat (first | refine blk_drewN ?_ _ | refine blk_drew ?_ | refine blk_alloc ?_ _)); refine blk_far ?_ NB280_281.out _; (with_reducible repeat (first | refine blk_drewN ?_ _ | refine blk_drew ?_ | refine blk_alloc ?_ _)); exact BK280.out) : p := h
theorem gangwayref5_May.q.aa_5 {p : Prop} (h : p := by (try simp only [List.map_toArray, List.map_cons, List.map_nil]); first | done | rfl | (simp only [List.length_drop, List.length_take]; rfl)) : p := h
theorem gangwayref5_May.q.aa_6 {p : Prop} (h : p := by repeat (first | (with_reducible first | exact HB.out | apply below_alloc | apply pw_below_drewN | apply below_drew1) | exact HB.out)) : p := h
theorem gangwayref5_May.q.aa_7 {p : Prop} (h : p := by (with_reducible repeat (first | refine blk_drewN ?_ _ | refine blk_drew ?_ | refine blk_alloc ?_ _)); exact BK280.out) : p := h
theorem gangwayref5_May.q.aa_8 {p : Prop} (h : p := by (with_reducible repeat (first | refine blk_drewN ?_ _ | refine blk_drew ?_ | refine blk_alloc ?_ _)); exact BK281.out) : p := h
theorem gangwayref5_May.q.am_ {p : Prop} (h : p) : Aside0 p := Aside0.mk h
theorem gangwayref5_May.q.bm_ {α β : Type _} {o : Option α} {f : α → Option β} {b : β} (h : o.bind f = some b) : ∃ a, o = some a ∧ f a = some b := Option.bind_eq_some_iff.mp h
set_option maxHeartbeats 100000000 in
set_option maxRecDepth 100000 in
theorem gangwayref5_May.q.step (k : Nat) (ih : ∀ kq_, kq_ < k → ∀ (A0 : Option Addr) (c0 : Nat) (l0 : List (S45)) (a1 : Int) (r : Bool) (w : World) (hr0 : Kd.C k45 w A0 l0.length l0) (hc0 : l0.length ≤ c0) (h : gangwayref5_May.f kq_ l0 a1 = some r),
  Calls Try.prog 19 #[.slice A0 l0.length c0, .int .i64 a1] w fun e w' => e = .returned (.bool r) ∧ Below w.heap.size w w') : ∀ (a0_0 : Int) (a0_1 : Int) (a0_2 : Int) (a0_3 : Int) (a0_4 : Int) (a0_5 : Int) (A0_6 : Option Addr) (c0_6 : Nat) (l0_6 : List Int) (A0_7 : Option Addr) (c0_7 : Nat) (l0_7 : List (S45)) (A0_8 : Option Addr) (c0_8 : Nat) (l0_8 : List (S45)) (a1 : Int) (r : Bool) (w : World) (hr0_6 : Kd.C (Kd.int .i64) w A0_6 l0_6.length l0_6) (hc0_6 : l0_6.length ≤ c0_6) (hr0_7 : Kd.C k45 w A0_7 l0_7.length l0_7) (hc0_7 : l0_7.length ≤ c0_7) (hr0_8 : Kd.C k45 w A0_8 l0_8.length l0_8) (hc0_8 : l0_8.length ≤ c0_8) (h : gangwayref5_May.q.f k a0_0 a0_1 a0_2 a0_3 a0_4 a0_5 l0_6 l0_7 l0_8 a1 = some r),
  Calls Try.prog 29 #[.agg #[.int .i64 a0_0, .int .i64 a0_1, .int .i64 a0_2, .int .i64 a0_3, .int .i64 a0_4, .int .i64 a0_5, .slice A0_6 l0_6.length c0_6, .slice A0_7 l0_7.length c0_7, .slice A0_8 l0_8.length c0_8], .int .i64 a1] w fun e w' => e = .returned (.bool r) ∧ Below w.heap.size w w' := by
 intro a0_0 a0_1 a0_2 a0_3 a0_4 a0_5 A0_6 c0_6 l0_6 A0_7 c0_7 l0_7 A0_8 c0_8 l0_8 a1 r w hr0_6 hc0_6 hr0_7 hc0_7 hr0_8 hc0_8 h
 cases k with
 | zero => exact absurd h (by simp [gangwayref5_May.q.f])
 | succ k =>
 simp only [gangwayref5_May.q.f] at h
 have hu45 := Try.underlying45
 have HR0_6 := am_ hr0_6
 have HC0_6 := am_ hc0_6
 clear hr0_6 hc0_6
 have HR0_7 := am_ hr0_7
 have HC0_7 := am_ hc0_7
 clear hr0_7 hc0_7
 have HR0_8 := am_ hr0_8
 have HC0_8 := am_ hc0_8
 clear hr0_8 hc0_8
 have HB := am_ (Below.refl w.heap.size w)
 have H : ((gangwayref5_shape.f k a0_0).bind fun t282 => (if t282 = 0 then (some false) else (if t282 = 2 then (if a1 = 0 then (some false) else (if a0_1 = 64 then ((gangwayref5_May.f k l0_7 (wrap64 (a1 - 1))).bind fun t283 => (j0 k a1 t283 a0_0 a0_1 a0_2 a0_3 a0_4 a0_5 l0_6 l0_7 l0_8 a0_0 a0_1 0 0 0 0 l0_7)) else (if a0_1 = 127 then ((gangwayref5_May.f k l0_7 (wrap64 (a1 - 1))).bind fun t284 => (j0 k a1 t284 a0_0 a0_1 a0_2 a0_3 a0_4 a0_5 l0_6 l0_7 l0_8 a0_0 a0_1 0 0 0 0 l0_7)) else (if a0_1 = 126 then ((gangwayref5_May.f k l0_7 (wrap64 (a1 - 1))).bind fun t285 => (j0 k a1 t285 a0_0 a0_1 a0_2 a0_3 a0_4 a0_5 l0_6 l0_7 l0_8 a0_0 a0_1 0 0 0 0 l0_7)) else (j0 k a1 false a0_0 a0_1 a0_2 a0_3 a0_4 a0_5 l0_6 l0_7 l0_8 a0_0 a0_1 0 0 0 0 l0_7))))) else (if t282 = 3 then (j2 k true t282 (t282 == 3) a0_0 a0_1 a0_2 a0_3 a0_4 a0_5 l0_6 l0_7 l0_8 a0_0 0 0 0 0 0) else (j2 k true t282 (t282 == 5) a0_0 a0_1 a0_2 a0_3 a0_4 a0_5 l0_6 l0_7 l0_8 a0_0 0 0 0 0 0))))) = some r := h
 clear h
 replace H := bm_ H
 obtain ⟨t282, A30, H⟩ := H
 replace H : (if t282 = 0 then (some false) else (if t282 = 2 then (if a1 = 0 then (some false) else (if a0_1 = 64 then ((gangwayref5_May.f k l0_7 (wrap64 (a1 - 1))).bind fun t283 => (j0 k a1 t283 a0_0 a0_1 a0_2 a0_3 a0_4 a0_5 l0_6 l0_7 l0_8 a0_0 a0_1 0 0 0 0 l0_7)) else (if a0_1 = 127 then ((gangwayref5_May.f k l0_7 (wrap64 (a1 - 1))).bind fun t284 => (j0 k a1 t284 a0_0 a0_1 a0_2 a0_3 a0_4 a0_5 l0_6 l0_7 l0_8 a0_0 a0_1 0 0 0 0 l0_7)) else (if a0_1 = 126 then ((gangwayref5_May.f k l0_7 (wrap64 (a1 - 1))).bind fun t285 => (j0 k a1 t285 a0_0 a0_1 a0_2 a0_3 a0_4 a0_5 l0_6 l0_7 l0_8 a0_0 a0_1 0 0 0 0 l0_7)) else (j0 k a1 false a0_0 a0_1 a0_2 a0_3 a0_4 a0_5 l0_6 l0_7 l0_8 a0_0 a0_1 0 0 0 0 l0_7))))) else (if t282 = 3 then (j2 k true t282 (t282 == 3) a0_0 a0_1 a0_2 a0_3 a0_4 a0_5 l0_6 l0_7 l0_8 a0_0 0 0 0 0 0) else (j2 k true t282 (t282 == 5) a0_0 a0_1 a0_2 a0_3 a0_4 a0_5 l0_6 l0_7 l0_8 a0_0 0 0 0 0 0)))) = some r := H
 have A3 := am_ A30
 clear A30
 by_cases c4 : t282 = 0
 ·rw [if_pos c4] at H
  have c4b0 : (t282 == 0) = true := beq_iff_eq.mpr c4
  have c4b1 : (t282 != 0) = false := bne_eq_false_iff_eq.mpr c4
  clear c4
  obtain rfl := Option.some.inj H
  go_enter Try.func29, Try.ntmps29
  go_wp2_with (first | ((with_reducible refine gate_dst (N := 2) rfl ?_); (try (refine gate_guard (by rfl) ?_; dsimp only)); refine box_event ?hg (N := 2) ?hd (cs := #[.int .i64 a0_0, .int .i64 a0_1, .int .i64 a0_2, .int .i64 a0_3, .int .i64 a0_4, .int .i64 a0_5, .slice A0_6 l0_6.length c0_6, .slice A0_7 l0_7.length c0_7, .slice A0_8 l0_8.length c0_8]) (t := 45) ?hr ?_; (case hd => rfl); (case hg => rfl); (case hr => first | (go_simp; done) | (go_simp; rfl)); intro gb280 hg w5 hbox hb; have n0_ := am_ (below_step aa_6 hb); have n1_ := am_ (hbox); have n2_ := am_ ((by rw [hg]; exact (below_size aa_6) : w.heap.size ≤ gb280)); have n3_ := am_ ((by rw [hg]; exact (below_size aa_6) : w.heap.size ≤ gb280)); clear HB; have HB := n0_; have BK280 := n1_; have GW280 := n2_; have GE280 := n3_; clear n0_ n1_ n2_ n3_; clear hb hbox hg; have hcz6_0 : w5.cell? ⟨gb280, 0, none⟩ = some (.int .i64 a0_0) := (bc BK280 0); have hcz6_1 : w5.cell? ⟨gb280, 1, none⟩ = some (.int .i64 a0_1) := (bc BK280 1); have hcz6_2 : w5.cell? ⟨gb280, 2, none⟩ = some (.int .i64 a0_2) := (bc BK280 2); have hcz6_3 : w5.cell? ⟨gb280, 3, none⟩ = some (.int .i64 a0_3) := (bc BK280 3); have hcz6_4 : w5.cell? ⟨gb280, 4, none⟩ = some (.int .i64 a0_4) := (bc BK280 4); have hcz6_5 : w5.cell? ⟨gb280, 5, none⟩ = some (.int .i64 a0_5) := (bc BK280 5); have hcz6_6 : w5.cell? ⟨gb280, 6, none⟩ = some (.slice A0_6 l0_6.length c0_6) := (bc BK280 6); have hcz6_7 : w5.cell? ⟨gb280, 7, none⟩ = some (.slice A0_7 l0_7.length c0_7) := (bc BK280 7); have hcz6_8 : w5.cell? ⟨gb280, 8, none⟩ = some (.slice A0_8 l0_8.length c0_8) := (bc BK280 8); have hfz6_1 := blk_frozen BK280.out 1; have hfz6_2 := blk_frozen BK280.out 2; have hfz6_3 := blk_frozen BK280.out 3; have hfz6_4 := blk_frozen BK280.out 4; have hfz6_5 := blk_frozen BK280.out 5; have hfz6_6 := blk_frozen BK280.out 6; have hfz6_7 := blk_frozen BK280.out 7; have hfz6_8 := blk_frozen BK280.out 8) | ((with_reducible refine gate_dst (N := 5) rfl ?_); (try (refine gate_guard (by rfl) ?_; dsimp only)); refine box_event ?hg (N := 5) ?hd (cs := #[.int .i64 0, .int .i64 0, .int .i64 0, .int .i64 0, .int .i64 0, .int .i64 0, .slice none 0 0, .slice none 0 0, .slice none 0 0]) (t := 45) ?hr ?_; (case hd => rfl); (case hg => rfl); (case hr => first | (go_simp; done) | (go_simp; rfl)); intro gb281 hg w7 hbox hb) | ((with_reducible refine gate_store (t := 45) (p := 5) rfl ?_); refine Go.Proofs.YtlahigmoljflkaaO.store_whole ?hg ?hn (ty := 45) (x := ?xs_w8) (y := ?ys_w8) ?ho (g := gb281) ?hx [.int .i64 a0_0, .int .i64 0, .int .i64 0, .int .i64 0, .int .i64 0, .int .i64 0, .slice none 0 0, .slice none 0 0, .slice none 0 0] ?hy hbox (by kernel_rfl) rfl rfl ?_; (case ho => rfl); (case hg => rfl); (case hn => rfl); (case hx => rfl); (case hy => rfl); intro w8 hb_ hO_ hB_; replace hb := hB_ _ _ hb (Nat.le_of_eq hg.symm); replace hbox := hb_; clear hb_ hO_ hB_; have n0_ := am_ (bbelow BK280 aa_7 hb); have n1_ := am_ (below_step aa_3 hb); have n2_ := am_ (hbox); have n3_ := am_ ((by rw [hg]; exact (below_size aa_3) : w.heap.size ≤ gb281)); have n4_ := am_ ((by rw [hg]; exact (below_size aa_3) : w.heap.size ≤ gb281)); have n5_ := am_ ((by rw [hg]; exact Nat.ne_of_lt (blk_lt (g := gb280) (o := .cells #[.int .i64 a0_0, .int .i64 a0_1, .int .i64 a0_2, .int .i64 a0_3, .int .i64 a0_4, .int .i64 a0_5, .slice A0_6 l0_6.length c0_6, .slice A0_7 l0_7.length c0_7, .slice A0_8 l0_8.length c0_8] 45 (0, 0)) aa_7) : gb280 ≠ gb281)); have n6_ := am_ ((by rw [hg]; exact Nat.ne_of_gt (blk_lt (g := gb280) (o := .cells #[.int .i64 a0_0, .int .i64 a0_1, .int .i64 a0_2, .int .i64 a0_3, .int .i64 a0_4, .int .i64 a0_5, .slice A0_6 l0_6.length c0_6, .slice A0_7 l0_7.length c0_7, .slice A0_8 l0_8.length c0_8] 45 (0, 0)) aa_7) : gb281 ≠ gb280)); clear BK280; clear HB; have BK280 := n0_; have HB := n1_; have BK281 := n2_; have GW281 := n3_; have GE281 := n4_; have NB280_281 := n5_; have NB281_280 := n6_; clear n0_ n1_ n2_ n3_ n4_ n5_ n6_; clear hb hbox hg; have hnb9 := NB280_281.out; have hnc9 := NB281_280.out; have hcz10_0 : w8.cell? ⟨gb280, 0, none⟩ = some (.int .i64 a0_0) := (bc BK280 0); have hcz10_1 : w8.cell? ⟨gb280, 1, none⟩ = some (.int .i64 a0_1) := (bc BK280 1); have hcz10_2 : w8.cell? ⟨gb280, 2, none⟩ = some (.int .i64 a0_2) := (bc BK280 2); have hcz10_3 : w8.cell? ⟨gb280, 3, none⟩ = some (.int .i64 a0_3) := (bc BK280 3); have hcz10_4 : w8.cell? ⟨gb280, 4, none⟩ = some (.int .i64 a0_4) := (bc BK280 4); have hcz10_5 : w8.cell? ⟨gb280, 5, none⟩ = some (.int .i64 a0_5) := (bc BK280 5); have hcz10_6 : w8.cell? ⟨gb280, 6, none⟩ = some (.slice A0_6 l0_6.length c0_6) := (bc BK280 6); have hcz10_7 : w8.cell? ⟨gb280, 7, none⟩ = some (.slice A0_7 l0_7.length c0_7) := (bc BK280 7); have hcz10_8 : w8.cell? ⟨gb280, 8, none⟩ = some (.slice A0_8 l0_8.length c0_8) := (bc BK280 8); have hfz10_1 := blk_frozen BK280.out 1; have hfz10_2 := blk_frozen BK280.out 2; have hfz10_3 := blk_frozen BK280.out 3; have hfz10_4 := blk_frozen BK280.out 4; have hfz10_5 := blk_frozen BK280.out 5; have hfz10_6 := blk_frozen BK280.out 6; have hfz10_7 := blk_frozen BK280.out 7; have hfz10_8 := blk_frozen BK280.out 8) | ((with_reducible refine gate_callee (f := 42) rfl ?_); refine goesL_ (some 13) rfl rfl Try.func42 (by kernel_rfl) rfl #[.int .i64 a0_0] rfl aa_5 ?_; (with_reducible refine (gangwayref5_shape.calls k a0_0 t282 _ A3.out).mono ?_); rintro e w' ⟨rfl, ⟨nd, rfl⟩⟩; refine ⟨_, rfl, ?_⟩))
  go_ret
  exact ⟨by first | rfl | (simp [errW_none, errW_some] <;> rfl) | (simp [*, errW_none, errW_some] <;> rfl), by repeat (first | (with_reducible first | exact HB.out | apply below_alloc | apply pw_below_drewN | apply below_drew1 | refine below_set ?_ GE280.out | refine below_set ?_ GE281.out) | exact HB.out)⟩
 ·as_aux_lemma =>
   rw [if_neg c4] at H
   have c4b0 : (t282 == 0) = false := beq_eq_false_iff_ne.mpr c4
   have c4b1 : (t282 != 0) = true := bne_iff_ne.mpr c4
   have HC11 := am_ H
   clear H
   go_enter Try.func29, Try.ntmps29
   go_upto_if 16 with (first | ((with_reducible refine gate_dst (N := 2) rfl ?_); (try (refine gate_guard (by rfl) ?_; dsimp only)); refine box_event ?hg (N := 2) ?hd (cs := #[.int .i64 a0_0, .int .i64 a0_1, .int .i64 a0_2, .int .i64 a0_3, .int .i64 a0_4, .int .i64 a0_5, .slice A0_6 l0_6.length c0_6, .slice A0_7 l0_7.length c0_7, .slice A0_8 l0_8.length c0_8]) (t := 45) ?hr ?_; (case hd => rfl); (case hg => rfl); (case hr => first | (go_simp; done) | (go_simp; rfl)); intro gb280 hg w12 hbox hb; have n0_ := am_ (below_step aa_6 hb); have n1_ := am_ (hbox); have n2_ := am_ ((by rw [hg]; exact (below_size aa_6) : w.heap.size ≤ gb280)); have n3_ := am_ ((by rw [hg]; exact (below_size aa_6) : w.heap.size ≤ gb280)); clear HB; have HB := n0_; have BK280 := n1_; have GW280 := n2_; have GE280 := n3_; clear n0_ n1_ n2_ n3_; clear hb hbox hg; have hcz13_0 : w12.cell? ⟨gb280, 0, none⟩ = some (.int .i64 a0_0) := (bc BK280 0); have hcz13_1 : w12.cell? ⟨gb280, 1, none⟩ = some (.int .i64 a0_1) := (bc BK280 1); have hcz13_2 : w12.cell? ⟨gb280, 2, none⟩ = some (.int .i64 a0_2) := (bc BK280 2); have hcz13_3 : w12.cell? ⟨gb280, 3, none⟩ = some (.int .i64 a0_3) := (bc BK280 3); have hcz13_4 : w12.cell? ⟨gb280, 4, none⟩ = some (.int .i64 a0_4) := (bc BK280 4); have hcz13_5 : w12.cell? ⟨gb280, 5, none⟩ = some (.int .i64 a0_5) := (bc BK280 5); have hcz13_6 : w12.cell? ⟨gb280, 6, none⟩ = some (.slice A0_6 l0_6.length c0_6) := (bc BK280 6); have hcz13_7 : w12.cell? ⟨gb280, 7, none⟩ = some (.slice A0_7 l0_7.length c0_7) := (bc BK280 7); have hcz13_8 : w12.cell? ⟨gb280, 8, none⟩ = some (.slice A0_8 l0_8.length c0_8) := (bc BK280 8); have hfz13_1 := blk_frozen BK280.out 1; have hfz13_2 := blk_frozen BK280.out 2; have hfz13_3 := blk_frozen BK280.out 3; have hfz13_4 := blk_frozen BK280.out 4; have hfz13_5 := blk_frozen BK280.out 5; have hfz13_6 := blk_frozen BK280.out 6; have hfz13_7 := blk_frozen BK280.out 7; have hfz13_8 := blk_frozen BK280.out 8) | ((with_reducible refine gate_dst (N := 5) rfl ?_); (try (refine gate_guard (by rfl) ?_; dsimp only)); refine box_event ?hg (N := 5) ?hd (cs := #[.int .i64 0, .int .i64 0, .int .i64 0, .int .i64 0, .int .i64 0, .int .i64 0, .slice none 0 0, .slice none 0 0, .slice none 0 0]) (t := 45) ?hr ?_; (case hd => rfl); (case hg => rfl); (case hr => first | (go_simp; done) | (go_simp; rfl)); intro gb281 hg w14 hbox hb) | ((with_reducible refine gate_store (t := 45) (p := 5) rfl ?_); refine Go.Proofs.YtlahigmoljflkaaO.store_whole ?hg ?hn (ty := 45) (x := ?xs_w15) (y := ?ys_w15) ?ho (g := gb281) ?hx [.int .i64 a0_0, .int .i64 0, .int .i64 0, .int .i64 0, .int .i64 0, .int .i64 0, .slice none 0 0, .slice none 0 0, .slice none 0 0] ?hy hbox (by kernel_rfl) rfl rfl ?_; (case ho => rfl); (case hg => rfl); (case hn => rfl); (case hx => rfl); (case hy => rfl); intro w15 hb_ hO_ hB_; replace hb := hB_ _ _ hb (Nat.le_of_eq hg.symm); replace hbox := hb_; clear hb_ hO_ hB_; have n0_ := am_ (bbelow BK280 aa_7 hb); have n1_ := am_ (below_step aa_3 hb); have n2_ := am_ (hbox); have n3_ := am_ ((by rw [hg]; exact (below_size aa_3) : w.heap.size ≤ gb281)); have n4_ := am_ ((by rw [hg]; exact (below_size aa_3) : w.heap.size ≤ gb281)); have n5_ := am_ ((by rw [hg]; exact Nat.ne_of_lt (blk_lt (g := gb280) (o := .cells #[.int .i64 a0_0, .int .i64 a0_1, .int .i64 a0_2, .int .i64 a0_3, .int .i64 a0_4, .int .i64 a0_5, .slice A0_6 l0_6.length c0_6, .slice A0_7 l0_7.length c0_7, .slice A0_8 l0_8.length c0_8] 45 (0, 0)) aa_7) : gb280 ≠ gb281)); have n6_ := am_ ((by rw [hg]; exact Nat.ne_of_gt (blk_lt (g := gb280) (o := .cells #[.int .i64 a0_0, .int .i64 a0_1, .int .i64 a0_2, .int .i64 a0_3, .int .i64 a0_4, .int .i64 a0_5, .slice A0_6 l0_6.length c0_6, .slice A0_7 l0_7.length c0_7, .slice A0_8 l0_8.length c0_8] 45 (0, 0)) aa_7) : gb281 ≠ gb280)); clear BK280; clear HB; have BK280 := n0_; have HB := n1_; have BK281 := n2_; have GW281 := n3_; have GE281 := n4_; have NB280_281 := n5_; have NB281_280 := n6_; clear n0_ n1_ n2_ n3_ n4_ n5_ n6_; clear hb hbox hg; have hnb16 := NB280_281.out; have hnc16 := NB281_280.out; have hcz17_0 : w15.cell? ⟨gb280, 0, none⟩ = some (.int .i64 a0_0) := (bc BK280 0); have hcz17_1 : w15.cell? ⟨gb280, 1, none⟩ = some (.int .i64 a0_1) := (bc BK280 1); have hcz17_2 : w15.cell? ⟨gb280, 2, none⟩ = some (.int .i64 a0_2) := (bc BK280 2); have hcz17_3 : w15.cell? ⟨gb280, 3, none⟩ = some (.int .i64 a0_3) := (bc BK280 3); have hcz17_4 : w15.cell? ⟨gb280, 4, none⟩ = some (.int .i64 a0_4) := (bc BK280 4); have hcz17_5 : w15.cell? ⟨gb280, 5, none⟩ = some (.int .i64 a0_5) := (bc BK280 5); have hcz17_6 : w15.cell? ⟨gb280, 6, none⟩ = some (.slice A0_6 l0_6.length c0_6) := (bc BK280 6); have hcz17_7 : w15.cell? ⟨gb280, 7, none⟩ = some (.slice A0_7 l0_7.length c0_7) := (bc BK280 7); have hcz17_8 : w15.cell? ⟨gb280, 8, none⟩ = some (.slice A0_8 l0_8.length c0_8) := (bc BK280 8); have hfz17_1 := blk_frozen BK280.out 1; have hfz17_2 := blk_frozen BK280.out 2; have hfz17_3 := blk_frozen BK280.out 3; have hfz17_4 := blk_frozen BK280.out 4; have hfz17_5 := blk_frozen BK280.out 5; have hfz17_6 := blk_frozen BK280.out 6; have hfz17_7 := blk_frozen BK280.out 7; have hfz17_8 := blk_frozen BK280.out 8) | ((with_reducible refine gate_callee (f := 42) rfl ?_); refine goesL_ (some 13) rfl rfl Try.func42 (by kernel_rfl) rfl #[.int .i64 a0_0] rfl aa_5 ?_; (with_reducible refine (gangwayref5_shape.calls k a0_0 t282 _ A3.out).mono ?_); rintro e w' ⟨rfl, ⟨nd, rfl⟩⟩; refine ⟨_, rfl, ?_⟩))
   (try simp only [Act.put, e1, e2, e3])
   (try (with_reducible refine Go.Proofs.YtlahigmoljflkaaO.last_in ?_; intro K_ hK_))
   go_cut [6, 16] (fun v6 v16 wc => ∃ (kq : Nat) (x6_10 : Bool) (x0z_10 : Int) (x1z_10 : Int) (x2z_10 : Int) (x3z_10 : Int) (x4z_10 : Int) (x5z_10 : List Int) (x6z_10 : List (S45)) (x7z_10 : List (S45)) (u5z : Value) (u6z : Value) (u7z : Value), v6 = .bool x6_10 ∧ Aside0 (j10 kq x6_10 a0_0 a0_1 a0_2 a0_3 a0_4 a0_5 l0_6 l0_7 l0_8 a0_0 x0z_10 x1z_10 x2z_10 x3z_10 x4z_10 x5z_10 x6z_10 x7z_10 = some r) ∧ Aside0 (kq ≤ k) ∧ Aside0 (∃ (Aq_ : Option Addr) (cq_ : Nat), u5z = .slice Aq_ x5z_10.length cq_) ∧ Aside0 (∃ (Aq_ : Option Addr) (cq_ : Nat), u6z = .slice Aq_ x6z_10.length cq_) ∧ Aside0 (∃ (Aq_ : Option Addr) (cq_ : Nat), u7z = .slice Aq_ x7z_10.length cq_) ∧ Aside0 (wc.heap[gb280]? = some (.cells #[.int .i64 a0_0, .int .i64 a0_1, .int .i64 a0_2, .int .i64 a0_3, .int .i64 a0_4, .int .i64 a0_5, (.slice A0_6 l0_6.length c0_6), (.slice A0_7 l0_7.length c0_7), (.slice A0_8 l0_8.length c0_8)] 45 (0, 0))) ∧ Aside0 (wc.heap[gb281]? = some (.cells #[.int .i64 a0_0, .int .i64 x0z_10, .int .i64 x1z_10, .int .i64 x2z_10, .int .i64 x3z_10, .int .i64 x4z_10, u5z, u6z, u7z] 45 (0, 0))) ∧ Aside0 (Below w.heap.size w wc))
   case first =>
    as_aux_lemma =>
     have H := HC11.out
     clear HC11
     by_cases c18 : t282 = 2
     ·as_aux_lemma =>
       rw [if_pos c18] at H
       have c18b0 : (t282 == 2) = true := beq_iff_eq.mpr c18
       have c18b1 : (t282 != 2) = false := bne_eq_false_iff_eq.mpr c18
       clear c18
       (first | rw [c18b0] | (simp only [i64_w, i32_w]; rw [c18b0]) | skip)
       by_cases c19 : a1 = 0
       ·rw [if_pos c19] at H
        have c19b0 : (a1 == 0) = true := beq_iff_eq.mpr c19
        have c19b1 : (a1 != 0) = false := bne_eq_false_iff_eq.mpr c19
        clear c19
        obtain rfl := Option.some.inj H
        go_wp2
        go_ret
        exact ⟨by first | rfl | (simp [errW_none, errW_some] <;> rfl) | (simp [*, errW_none, errW_some] <;> rfl), by repeat (first | (with_reducible first | exact HB.out | apply below_alloc | apply pw_below_drewN | apply below_drew1 | refine below_set ?_ GE280.out | refine below_set ?_ GE281.out) | exact HB.out)⟩
       ·as_aux_lemma =>
         rw [if_neg c19] at H
         have c19b0 : (a1 == 0) = false := beq_eq_false_iff_ne.mpr c19
         have c19b1 : (a1 != 0) = true := bne_iff_ne.mpr c19
         have HC20 := am_ H
         clear H
         have hnb21 := NB280_281.out
         have hnc21 := NB281_280.out
         obtain ⟨hcz22_0, hcz22_1, hcz22_2, hcz22_3, hcz22_4, hcz22_5, hcz22_6, hcz22_7, hcz22_8, -, hfz22_1, hfz22_2, hfz22_3, hfz22_4, hfz22_5, hfz22_6, hfz22_7, hfz22_8⟩ := cn BK280
         obtain ⟨hcz23_0, hcz23_1, hcz23_2, hcz23_3, hcz23_4, hcz23_5, hcz23_6, hcz23_7, hcz23_8, -, hfz23_1, hfz23_2, hfz23_3, hfz23_4, hfz23_5, hfz23_6, hfz23_7, hfz23_8⟩ := cn BK281
         go_upto_region 11 with (fail)
         (try (with_reducible refine Go.Proofs.YtlahigmoljflkaaO.last_in ?_; intro K_ hK_))
         go_cut [6] (fun v6 wc => ∃ (kq : Nat) (x6_19 : Bool), v6 = .bool x6_19 ∧ Aside0 (j0 kq a1 x6_19 a0_0 a0_1 a0_2 a0_3 a0_4 a0_5 l0_6 l0_7 l0_8 a0_0 a0_1 0 0 0 0 l0_7 = some r) ∧ Aside0 (kq ≤ k) ∧ Aside0 (wc.heap[gb280]? = some (.cells #[.int .i64 a0_0, .int .i64 a0_1, .int .i64 a0_2, .int .i64 a0_3, .int .i64 a0_4, .int .i64 a0_5, (.slice A0_6 l0_6.length c0_6), (.slice A0_7 l0_7.length c0_7), (.slice A0_8 l0_8.length c0_8)] 45 (0, 0))) ∧ Aside0 (wc.heap[gb281]? = some (.cells #[.int .i64 a0_0, .int .i64 a0_1, .int .i64 0, .int .i64 0, .int .i64 0, .int .i64 0, (.slice none 0 0), (.slice A0_7 l0_7.length c0_7), (.slice none 0 0)] 45 (0, 0))) ∧ Aside0 (Below w.heap.size w wc))
         case first =>
          as_aux_lemma =>
           have H := HC20.out
           clear HC20
           by_cases c24 : a0_1 = 64
           ·rw [if_pos c24] at H
            have c24b0 : (a0_1 == 64) = true := beq_iff_eq.mpr c24
            have c24b1 : (a0_1 != 64) = false := bne_eq_false_iff_eq.mpr c24
            clear c24
            (first | rw [c24b0] | (simp only [i64_w, i32_w]; rw [c24b0]) | skip)
            replace H := bm_ H
            obtain ⟨t283, A250, H⟩ := H
            replace H : (j0 k a1 t283 a0_0 a0_1 a0_2 a0_3 a0_4 a0_5 l0_6 l0_7 l0_8 a0_0 a0_1 0 0 0 0 l0_7) = some r := H
            have A25 := am_ A250
            clear A250
            have H' := am_ H
            clear H
            have hnb26 := NB280_281.out
            have hnc26 := NB281_280.out
            obtain ⟨hcz27_0, hcz27_1, hcz27_2, hcz27_3, hcz27_4, hcz27_5, hcz27_6, hcz27_7, hcz27_8, -, hfz27_1, hfz27_2, hfz27_3, hfz27_4, hfz27_5, hfz27_6, hfz27_7, hfz27_8⟩ := cn BK280
            go_wp2_with (first | (go_at_call 19; (with_reducible refine (ih k (by omega) _ _ l0_7 (wrap64 (a1 - 1)) t283 _ ?side1 ?side2 A25.out).mono ?_); (case side1 => exact Kd.C_below HR0_7.out aa_1); (case side2 => exact HC0_7.out); rintro e w28 ⟨rfl, hb⟩; have n0_ := am_ (bbelow BK280 aa_4 hb); have n1_ := am_ (blk_below (g := gb281) (o := .cells #[.int .i64 a0_0, .int .i64 a0_1, .int .i64 0, .int .i64 0, .int .i64 0, .int .i64 0, .slice none 0 0, .slice A0_7 l0_7.length c0_7, .slice none 0 0] 45 (0, 0)) aa_2 hb); have n2_ := am_ (below_step aa_1 hb); clear BK280; clear BK281; clear HB; have BK280 := n0_; have BK281 := n1_; have HB := n2_; clear n0_ n1_ n2_; (try clear hb); (try clear hb2); (try clear hk); (try clear hi)))
            go_meet
            case rel => exact ⟨_, (t283), aa_0, H', ⟨by first | omega | exact Nat.le_refl _⟩, ⟨aa_7⟩, ⟨aa_8⟩, ⟨aa_1⟩⟩
           ·as_aux_lemma =>
             rw [if_neg c24] at H
             have c24b0 : (a0_1 == 64) = false := beq_eq_false_iff_ne.mpr c24
             have c24b1 : (a0_1 != 64) = true := bne_iff_ne.mpr c24
             (first | rw [c24b0] | (simp only [i64_w, i32_w]; rw [c24b0]) | skip)
             by_cases c29 : a0_1 = 127
             ·rw [if_pos c29] at H
              have c29b0 : (a0_1 == 127) = true := beq_iff_eq.mpr c29
              have c29b1 : (a0_1 != 127) = false := bne_eq_false_iff_eq.mpr c29
              clear c29
              replace H := bm_ H
              obtain ⟨t284, A300, H⟩ := H
              replace H : (j0 k a1 t284 a0_0 a0_1 a0_2 a0_3 a0_4 a0_5 l0_6 l0_7 l0_8 a0_0 a0_1 0 0 0 0 l0_7) = some r := H
              have A30 := am_ A300
              clear A300
              have H' := am_ H
              clear H
              have hnb31 := NB280_281.out
              have hnc31 := NB281_280.out
              obtain ⟨hcz32_0, hcz32_1, hcz32_2, hcz32_3, hcz32_4, hcz32_5, hcz32_6, hcz32_7, hcz32_8, -, hfz32_1, hfz32_2, hfz32_3, hfz32_4, hfz32_5, hfz32_6, hfz32_7, hfz32_8⟩ := cn BK280
              go_wp2_with (first | (go_at_call 19; (with_reducible refine (ih k (by omega) _ _ l0_7 (wrap64 (a1 - 1)) t284 _ ?side1 ?side2 A30.out).mono ?_); (case side1 => exact Kd.C_below HR0_7.out aa_1); (case side2 => exact HC0_7.out); rintro e w33 ⟨rfl, hb⟩; have n0_ := am_ (bbelow BK280 aa_4 hb); have n1_ := am_ (blk_below (g := gb281) (o := .cells #[.int .i64 a0_0, .int .i64 a0_1, .int .i64 0, .int .i64 0, .int .i64 0, .int .i64 0, .slice none 0 0, .slice A0_7 l0_7.length c0_7, .slice none 0 0] 45 (0, 0)) aa_2 hb); have n2_ := am_ (below_step aa_1 hb); clear BK280; clear BK281; clear HB; have BK280 := n0_; have BK281 := n1_; have HB := n2_; clear n0_ n1_ n2_; (try clear hb); (try clear hb2); (try clear hk); (try clear hi)))
              go_meet
              case rel => exact ⟨_, (t284), aa_0, H', ⟨by first | omega | exact Nat.le_refl _⟩, ⟨aa_7⟩, ⟨aa_8⟩, ⟨aa_1⟩⟩
             ·as_aux_lemma =>
               rw [if_neg c29] at H
               have c29b0 : (a0_1 == 127) = false := beq_eq_false_iff_ne.mpr c29
               have c29b1 : (a0_1 != 127) = true := bne_iff_ne.mpr c29
               by_cases c34 : a0_1 = 126
               ·rw [if_pos c34] at H
                have c34b0 : (a0_1 == 126) = true := beq_iff_eq.mpr c34
                have c34b1 : (a0_1 != 126) = false := bne_eq_false_iff_eq.mpr c34
                clear c34
                replace H := bm_ H
                obtain ⟨t285, A350, H⟩ := H
                replace H : (j0 k a1 t285 a0_0 a0_1 a0_2 a0_3 a0_4 a0_5 l0_6 l0_7 l0_8 a0_0 a0_1 0 0 0 0 l0_7) = some r := H
                have A35 := am_ A350
                clear A350
                have H' := am_ H
                clear H
                have hnb36 := NB280_281.out
                have hnc36 := NB281_280.out
                obtain ⟨hcz37_0, hcz37_1, hcz37_2, hcz37_3, hcz37_4, hcz37_5, hcz37_6, hcz37_7, hcz37_8, -, hfz37_1, hfz37_2, hfz37_3, hfz37_4, hfz37_5, hfz37_6, hfz37_7, hfz37_8⟩ := cn BK280
                go_wp2_with (first | (go_at_call 19; (with_reducible refine (ih k (by omega) _ _ l0_7 (wrap64 (a1 - 1)) t285 _ ?side1 ?side2 A35.out).mono ?_); (case side1 => exact Kd.C_below HR0_7.out aa_1); (case side2 => exact HC0_7.out); rintro e w38 ⟨rfl, hb⟩; have n0_ := am_ (bbelow BK280 aa_4 hb); have n1_ := am_ (blk_below (g := gb281) (o := .cells #[.int .i64 a0_0, .int .i64 a0_1, .int .i64 0, .int .i64 0, .int .i64 0, .int .i64 0, .slice none 0 0, .slice A0_7 l0_7.length c0_7, .slice none 0 0] 45 (0, 0)) aa_2 hb); have n2_ := am_ (below_step aa_1 hb); clear BK280; clear BK281; clear HB; have BK280 := n0_; have BK281 := n1_; have HB := n2_; clear n0_ n1_ n2_; (try clear hb); (try clear hb2); (try clear hk); (try clear hi)))
                go_meet
                case rel => exact ⟨_, (t285), aa_0, H', ⟨by first | omega | exact Nat.le_refl _⟩, ⟨aa_7⟩, ⟨aa_8⟩, ⟨aa_1⟩⟩
               ·rw [if_neg c34] at H
                have c34b0 : (a0_1 == 126) = false := beq_eq_false_iff_ne.mpr c34
                have c34b1 : (a0_1 != 126) = true := bne_iff_ne.mpr c34
                have H' := am_ H
                clear H
                have hnb39 := NB280_281.out
                have hnc39 := NB281_280.out
                obtain ⟨hcz40_0, hcz40_1, hcz40_2, hcz40_3, hcz40_4, hcz40_5, hcz40_6, hcz40_7, hcz40_8, -, hfz40_1, hfz40_2, hfz40_3, hfz40_4, hfz40_5, hfz40_6, hfz40_7, hfz40_8⟩ := cn BK280
                go_wp2
                go_meet
                case rel => exact ⟨_, (false), aa_0, H', ⟨by first | omega | exact Nat.le_refl _⟩, ⟨aa_4⟩, ⟨aa_2⟩, ⟨aa_1⟩⟩
         case rest =>
          as_aux_lemma =>
           clear HC20
           try clear c4
           try clear c4b0
           try clear c4b1
           try clear c18b0
           try clear c18b1
           try clear c19
           try clear c19b0
           try clear c19b1
           try clear hcz13_0
           try clear hcz13_1
           try clear hcz13_2
           try clear hcz13_3
           try clear hcz13_4
           try clear hcz13_5
           try clear hcz13_6
           try clear hcz13_7
           try clear hcz13_8
           try clear hcz17_0
           try clear hcz17_1
           try clear hcz17_2
           try clear hcz17_3
           try clear hcz17_4
           try clear hcz17_5
           try clear hcz17_6
           try clear hcz17_7
           try clear hcz17_8
           try clear hcz22_0
           try clear hcz22_1
           try clear hcz22_2
           try clear hcz22_3
           try clear hcz22_4
           try clear hcz22_5
           try clear hcz22_6
           try clear hcz22_7
           try clear hcz22_8
           try clear hcz23_0
           try clear hcz23_1
           try clear hcz23_2
           try clear hcz23_3
           try clear hcz23_4
           try clear hcz23_5
           try clear hcz23_6
           try clear hcz23_7
           try clear hcz23_8
           try clear hfz13_1
           try clear hfz13_2
           try clear hfz13_3
           try clear hfz13_4
           try clear hfz13_5
           try clear hfz13_6
           try clear hfz13_7
           try clear hfz13_8
           try clear hfz17_1
           try clear hfz17_2
           try clear hfz17_3
           try clear hfz17_4
           try clear hfz17_5
           try clear hfz17_6
           try clear hfz17_7
           try clear hfz17_8
           try clear hfz22_1
           try clear hfz22_2
           try clear hfz22_3
           try clear hfz22_4
           try clear hfz22_5
           try clear hfz22_6
           try clear hfz22_7
           try clear hfz22_8
           try clear hfz23_1
           try clear hfz23_2
           try clear hfz23_3
           try clear hfz23_4
           try clear hfz23_5
           try clear hfz23_6
           try clear hfz23_7
           try clear hfz23_8
           obtain ⟨kq, x6_19, rfl, HA, HJ19, BK280, BK281, HB⟩ := hcut
           cases kq with
           | zero => exact absurd HA.out (by simp [j0])
           | succ kj19 =>
            have H := HA.out
            clear HA
            simp only [j0] at H
            have HC41 := am_ H
            clear H
            have hnb42 := NB280_281.out
            have hnc42 := NB281_280.out
            obtain ⟨hcz43_0, hcz43_1, hcz43_2, hcz43_3, hcz43_4, hcz43_5, hcz43_6, hcz43_7, hcz43_8, -, hfz43_1, hfz43_2, hfz43_3, hfz43_4, hfz43_5, hfz43_6, hfz43_7, hfz43_8⟩ := cn BK280
            go_upto_if 48 with (fail)
            (try (with_reducible refine Go.Proofs.YtlahigmoljflkaaO.last_in ?_; intro K_ hK_))
            go_cut [6, 48] (fun v6 v48 wc => ∃ (kq : Nat) (x6_40 : Bool) (x7z_40 : List (S45)) (u7z : Value), v6 = .bool x6_40 ∧ Aside0 (j1 kq x6_40 a0_0 a0_1 a0_2 a0_3 a0_4 a0_5 l0_6 l0_7 l0_8 a0_0 a0_1 0 0 0 0 l0_7 x7z_40 = some r) ∧ Aside0 (kq ≤ kj19) ∧ Aside0 (∃ (Aq_ : Option Addr) (cq_ : Nat), u7z = .slice Aq_ x7z_40.length cq_) ∧ Aside0 (wc.heap[gb280]? = some (.cells #[.int .i64 a0_0, .int .i64 a0_1, .int .i64 a0_2, .int .i64 a0_3, .int .i64 a0_4, .int .i64 a0_5, (.slice A0_6 l0_6.length c0_6), (.slice A0_7 l0_7.length c0_7), (.slice A0_8 l0_8.length c0_8)] 45 (0, 0))) ∧ Aside0 (wc.heap[gb281]? = some (.cells #[.int .i64 a0_0, .int .i64 a0_1, .int .i64 0, .int .i64 0, .int .i64 0, .int .i64 0, (.slice none 0 0), (.slice A0_7 l0_7.length c0_7), u7z] 45 (0, 0))) ∧ Aside0 (Below w.heap.size w wc))
            case first =>
             as_aux_lemma =>
              have H := HC41.out
              clear HC41
              by_cases c44 : a0_0 = 4
              ·as_aux_lemma =>
                rw [if_pos c44] at H
                have c44b0 : (a0_0 == 4) = true := beq_iff_eq.mpr c44
                have c44b1 : (a0_0 != 4) = false := bne_eq_false_iff_eq.mpr c44
                clear c44
                (first | rw [c44b0] | (simp only [i64_w, i32_w]; rw [c44b0]) | skip)
                by_cases c45 : x6_19 = true
                ·subst c45
                 have H1 : ((gangwayref5_May.f kj19 l0_8 (wrap64 (a1 - 1))).bind fun t286 => (j1 kj19 t286 a0_0 a0_1 a0_2 a0_3 a0_4 a0_5 l0_6 l0_7 l0_8 a0_0 a0_1 0 0 0 0 l0_7 l0_8)) = some r := by rw [if_pos rfl] at H; first | exact H | (rw [if_pos trivial] at H; rw [if_pos rfl]; exact H)
                 clear H
                 have H := H1
                 clear H1
                 replace H := bm_ H
                 obtain ⟨t286, A460, H⟩ := H
                 replace H : (j1 kj19 t286 a0_0 a0_1 a0_2 a0_3 a0_4 a0_5 l0_6 l0_7 l0_8 a0_0 a0_1 0 0 0 0 l0_7 l0_8) = some r := H
                 have A46 := am_ A460
                 clear A460
                 have H' := am_ H
                 clear H
                 have hnb47 := NB280_281.out
                 have hnc47 := NB281_280.out
                 obtain ⟨hcz48_0, hcz48_1, hcz48_2, hcz48_3, hcz48_4, hcz48_5, hcz48_6, hcz48_7, hcz48_8, -, hfz48_1, hfz48_2, hfz48_3, hfz48_4, hfz48_5, hfz48_6, hfz48_7, hfz48_8⟩ := cn BK280
                 obtain ⟨hcz49_0, hcz49_1, hcz49_2, hcz49_3, hcz49_4, hcz49_5, hcz49_6, hcz49_7, hcz49_8, -, hfz49_1, hfz49_2, hfz49_3, hfz49_4, hfz49_5, hfz49_6, hfz49_7, hfz49_8⟩ := cn BK281
                 go_wp2_with (first | (go_at_call 19; (with_reducible refine (ih kj19 (by have := HJ19.out; omega) _ _ l0_8 (wrap64 (a1 - 1)) t286 _ ?side1 ?side2 A46.out).mono ?_); (case side1 => exact Kd.C_below HR0_8.out aa_1); (case side2 => exact HC0_8.out); rintro e w50 ⟨rfl, hb⟩; have n0_ := am_ (bbelow BK280 (by (with_reducible repeat (first | refine blk_drewN ?_ _ | refine blk_drew ?_ | refine blk_alloc ?_ _)); refine blk_far ?_ NB280_281.out _; (with_reducible repeat (first | refine blk_drewN ?_ _ | refine blk_drew ?_ | refine blk_alloc ?_ _)); exact BK280.out) hb); have n1_ := am_ (blk_below (g := gb281) (o := .cells #[.int .i64 a0_0, .int .i64 a0_1, .int .i64 0, .int .i64 0, .int .i64 0, .int .i64 0, .slice none 0 0, .slice A0_7 l0_7.length c0_7, .slice A0_8 l0_8.length c0_8] 45 (0, 0)) (by (with_reducible repeat (first | refine blk_drewN ?_ _ | refine blk_drew ?_ | refine blk_alloc ?_ _)); refine blk_put (cs := #[.int .i64 a0_0, .int .i64 a0_1, .int .i64 0, .int .i64 0, .int .i64 0, .int .i64 0, .slice none 0 0, .slice A0_7 l0_7.length c0_7, .slice none 0 0]) ?_ 8 _ rfl; (with_reducible repeat (first | refine blk_drewN ?_ _ | refine blk_drew ?_ | refine blk_alloc ?_ _)); exact BK281.out) hb); have n2_ := am_ (below_step aa_1 hb); clear BK280; clear BK281; clear HB; have BK280 := n0_; have BK281 := n1_; have HB := n2_; clear n0_ n1_ n2_; (try clear hb); (try clear hb2); (try clear hk); (try clear hi)))
                 go_meet
                 case rel => exact ⟨_, (t286), (l0_8), (.slice A0_8 l0_8.length c0_8), aa_0, H', ⟨by have := HJ19.out; first | omega | exact Nat.le_refl _⟩, ⟨⟨_, _, rfl⟩⟩, ⟨aa_7⟩, ⟨aa_8⟩, ⟨aa_1⟩⟩
                ·replace c45 := Bool.eq_false_iff.mpr c45
                 subst c45
                 have H1 : (j1 kj19 false a0_0 a0_1 a0_2 a0_3 a0_4 a0_5 l0_6 l0_7 l0_8 a0_0 a0_1 0 0 0 0 l0_7 l0_8) = some r := by rw [if_neg (show ¬ (false = true) by decide)] at H; exact H
                 clear H
                 have H := H1
                 clear H1
                 have H' := am_ H
                 clear H
                 have hnb51 := NB280_281.out
                 have hnc51 := NB281_280.out
                 obtain ⟨hcz52_0, hcz52_1, hcz52_2, hcz52_3, hcz52_4, hcz52_5, hcz52_6, hcz52_7, hcz52_8, -, hfz52_1, hfz52_2, hfz52_3, hfz52_4, hfz52_5, hfz52_6, hfz52_7, hfz52_8⟩ := cn BK280
                 obtain ⟨hcz53_0, hcz53_1, hcz53_2, hcz53_3, hcz53_4, hcz53_5, hcz53_6, hcz53_7, hcz53_8, -, hfz53_1, hfz53_2, hfz53_3, hfz53_4, hfz53_5, hfz53_6, hfz53_7, hfz53_8⟩ := cn BK281
                 go_wp2
                 go_meet
                 case rel => exact ⟨_, (false), (l0_8), (.slice A0_8 l0_8.length c0_8), aa_0, H', ⟨by have := HJ19.out; first | omega | exact Nat.le_refl _⟩, ⟨⟨_, _, rfl⟩⟩, ⟨by (with_reducible repeat (first | refine blk_drewN ?_ _ | refine blk_drew ?_ | refine blk_alloc ?_ _)); refine blk_far ?_ NB280_281.out _; (with_reducible repeat (first | refine blk_drewN ?_ _ | refine blk_drew ?_ | refine blk_alloc ?_ _)); exact BK280.out⟩, ⟨by (with_reducible repeat (first | refine blk_drewN ?_ _ | refine blk_drew ?_ | refine blk_alloc ?_ _)); refine blk_put (cs := #[.int .i64 a0_0, .int .i64 a0_1, .int .i64 0, .int .i64 0, .int .i64 0, .int .i64 0, .slice none 0 0, .slice A0_7 l0_7.length c0_7, .slice none 0 0]) ?_ 8 _ rfl; (with_reducible repeat (first | refine blk_drewN ?_ _ | refine blk_drew ?_ | refine blk_alloc ?_ _)); exact BK281.out⟩, ⟨aa_1⟩⟩
              ·rw [if_neg c44] at H
               have c44b0 : (a0_0 == 4) = false := beq_eq_false_iff_ne.mpr c44
               have c44b1 : (a0_0 != 4) = true := bne_iff_ne.mpr c44
               (first | rw [c44b0] | (simp only [i64_w, i32_w]; rw [c44b0]) | skip)
               have H' := am_ H
               clear H
               go_wp2
               go_meet
               case rel => exact ⟨_, (x6_19), (([] : List (S45))), (.slice none 0 0), aa_0, H', ⟨by have := HJ19.out; first | omega | exact Nat.le_refl _⟩, ⟨⟨_, _, rfl⟩⟩, ⟨aa_7⟩, ⟨aa_8⟩, ⟨aa_1⟩⟩
            case rest =>
             as_aux_lemma =>
              clear HC41
              try clear hcz43_0
              try clear hcz43_1
              try clear hcz43_2
              try clear hcz43_3
              try clear hcz43_4
              try clear hcz43_5
              try clear hcz43_6
              try clear hcz43_7
              try clear hcz43_8
              try clear hfz43_1
              try clear hfz43_2
              try clear hfz43_3
              try clear hfz43_4
              try clear hfz43_5
              try clear hfz43_6
              try clear hfz43_7
              try clear hfz43_8
              obtain ⟨kq, x6_40, x7z_40, u7z, rfl, HA, HJ40, HLN_7z, BK280, BK281, HB⟩ := hcut
              obtain ⟨Aq282008_40, cq282008_40, rfl⟩ := HLN_7z.out
              clear HLN_7z
              cases kq with
              | zero => exact absurd HA.out (by simp [j1])
              | succ kj40 =>
               have H := HA.out
               clear HA
               simp only [j1] at H
               have H' := am_ H
               clear H
               go_wp2
               go_meet
               case rel => exact ⟨_, (x6_40), (a0_1), (0), (0), (0), (0), (([] : List Int)), (l0_7), (x7z_40), (.slice none 0 0), (.slice A0_7 l0_7.length c0_7), (.slice Aq282008_40 x7z_40.length cq282008_40), aa_0, H', ⟨by have := HJ19.out; have := HJ40.out; first | omega | exact Nat.le_refl _⟩, ⟨⟨_, _, rfl⟩⟩, ⟨⟨_, _, rfl⟩⟩, ⟨⟨_, _, rfl⟩⟩, ⟨aa_7⟩, ⟨aa_8⟩, ⟨aa_1⟩⟩
     ·as_aux_lemma =>
       rw [if_neg c18] at H
       have c18b0 : (t282 == 2) = false := beq_eq_false_iff_ne.mpr c18
       have c18b1 : (t282 != 2) = true := bne_iff_ne.mpr c18
       (first | rw [c18b0] | (simp only [i64_w, i32_w]; rw [c18b0]) | skip)
       have HC54 := am_ H
       clear H
       go_upto_if 60 with (fail)
       (try (with_reducible refine Go.Proofs.YtlahigmoljflkaaO.last_in ?_; intro K_ hK_))
       go_cut [60] (fun v60 wc => ∃ (kq : Nat) (x60_53 : Bool), v60 = .bool x60_53 ∧ Aside0 (j2 kq true t282 x60_53 a0_0 a0_1 a0_2 a0_3 a0_4 a0_5 l0_6 l0_7 l0_8 a0_0 0 0 0 0 0 = some r) ∧ Aside0 (kq ≤ k) ∧ Aside0 (wc.heap[gb280]? = some (.cells #[.int .i64 a0_0, .int .i64 a0_1, .int .i64 a0_2, .int .i64 a0_3, .int .i64 a0_4, .int .i64 a0_5, (.slice A0_6 l0_6.length c0_6), (.slice A0_7 l0_7.length c0_7), (.slice A0_8 l0_8.length c0_8)] 45 (0, 0))) ∧ Aside0 (wc.heap[gb281]? = some (.cells #[.int .i64 a0_0, .int .i64 0, .int .i64 0, .int .i64 0, .int .i64 0, .int .i64 0, (.slice none 0 0), (.slice none 0 0), (.slice none 0 0)] 45 (0, 0))) ∧ Aside0 (Below w.heap.size w wc))
       case first =>
        as_aux_lemma =>
         have H := HC54.out
         clear HC54
         by_cases c55 : t282 = 3
         ·rw [if_pos c55] at H
          have c55b0 : (t282 == 3) = true := beq_iff_eq.mpr c55
          have c55b1 : (t282 != 3) = false := bne_eq_false_iff_eq.mpr c55
          clear c55
          (first | rw [c55b0] | (simp only [i64_w, i32_w]; rw [c55b0]) | skip)
          have H' := am_ H
          clear H
          go_wp2
          go_meet
          case rel => exact ⟨_, ((t282 == 3)), aa_0, H', ⟨by first | omega | exact Nat.le_refl _⟩, ⟨aa_7⟩, ⟨aa_8⟩, ⟨aa_1⟩⟩
         ·rw [if_neg c55] at H
          have c55b0 : (t282 == 3) = false := beq_eq_false_iff_ne.mpr c55
          have c55b1 : (t282 != 3) = true := bne_iff_ne.mpr c55
          (first | rw [c55b0] | (simp only [i64_w, i32_w]; rw [c55b0]) | skip)
          have H' := am_ H
          clear H
          go_wp2
          go_meet
          case rel => exact ⟨_, ((t282 == 5)), aa_0, H', ⟨by first | omega | exact Nat.le_refl _⟩, ⟨aa_7⟩, ⟨aa_8⟩, ⟨aa_1⟩⟩
       case rest =>
        as_aux_lemma =>
         clear HC54
         try clear c4
         try clear c4b0
         try clear c4b1
         try clear c18
         try clear c18b0
         try clear c18b1
         try clear hcz13_0
         try clear hcz13_1
         try clear hcz13_2
         try clear hcz13_3
         try clear hcz13_4
         try clear hcz13_5
         try clear hcz13_6
         try clear hcz13_7
         try clear hcz13_8
         try clear hcz17_0
         try clear hcz17_1
         try clear hcz17_2
         try clear hcz17_3
         try clear hcz17_4
         try clear hcz17_5
         try clear hcz17_6
         try clear hcz17_7
         try clear hcz17_8
         try clear hfz13_1
         try clear hfz13_2
         try clear hfz13_3
         try clear hfz13_4
         try clear hfz13_5
         try clear hfz13_6
         try clear hfz13_7
         try clear hfz13_8
         try clear hfz17_1
         try clear hfz17_2
         try clear hfz17_3
         try clear hfz17_4
         try clear hfz17_5
         try clear hfz17_6
         try clear hfz17_7
         try clear hfz17_8
         obtain ⟨kq, x60_53, rfl, HA, HJ53, BK280, BK281, HB⟩ := hcut
         cases kq with
         | zero => exact absurd HA.out (by simp [j2])
         | succ kj53 =>
          have H := HA.out
          clear HA
          simp only [j2] at H
          have HC56 := am_ H
          clear H
          go_upto_if 60 with (fail)
          (try (with_reducible refine Go.Proofs.YtlahigmoljflkaaO.last_in ?_; intro K_ hK_))
          go_cut [6, 60] (fun v6 v60 wc => ∃ (kq : Nat) (x6_55 : Bool) (x1z_55 : Int) (x2z_55 : Int) (x3z_55 : Int) (x4z_55 : Int) (x5z_55 : List Int) (u5z : Value), v6 = .bool x6_55 ∧ Aside0 (j9 kq x6_55 a0_0 a0_1 a0_2 a0_3 a0_4 a0_5 l0_6 l0_7 l0_8 a0_0 0 x1z_55 x2z_55 x3z_55 x4z_55 x5z_55 = some r) ∧ Aside0 (kq ≤ kj53) ∧ Aside0 (∃ (Aq_ : Option Addr) (cq_ : Nat), u5z = .slice Aq_ x5z_55.length cq_) ∧ Aside0 (wc.heap[gb280]? = some (.cells #[.int .i64 a0_0, .int .i64 a0_1, .int .i64 a0_2, .int .i64 a0_3, .int .i64 a0_4, .int .i64 a0_5, (.slice A0_6 l0_6.length c0_6), (.slice A0_7 l0_7.length c0_7), (.slice A0_8 l0_8.length c0_8)] 45 (0, 0))) ∧ Aside0 (wc.heap[gb281]? = some (.cells #[.int .i64 a0_0, .int .i64 0, .int .i64 x1z_55, .int .i64 x2z_55, .int .i64 x3z_55, .int .i64 x4z_55, u5z, (.slice none 0 0), (.slice none 0 0)] 45 (0, 0))) ∧ Aside0 (Below w.heap.size w wc))
          case first =>
           as_aux_lemma =>
            have H := HC56.out
            clear HC56
            by_cases c57 : x60_53 = true
            ·subst c57
             have H1 : ((gangwayref5_in.f a0_2).bind fun t287 => (j9 kj53 t287 a0_0 a0_1 a0_2 a0_3 a0_4 a0_5 l0_6 l0_7 l0_8 a0_0 0 a0_2 0 0 0 ([] : List Int))) = some r := by rw [if_pos rfl] at H; first | exact H | (rw [if_pos trivial] at H; rw [if_pos rfl]; exact H)
             clear H
             have H := H1
             clear H1
             replace H := bm_ H
             obtain ⟨t287, A580, H⟩ := H
             replace H : (j9 kj53 t287 a0_0 a0_1 a0_2 a0_3 a0_4 a0_5 l0_6 l0_7 l0_8 a0_0 0 a0_2 0 0 0 ([] : List Int)) = some r := H
             have A58 := am_ A580
             clear A580
             have H' := am_ H
             clear H
             have hnb59 := NB280_281.out
             have hnc59 := NB281_280.out
             obtain ⟨hcz60_0, hcz60_1, hcz60_2, hcz60_3, hcz60_4, hcz60_5, hcz60_6, hcz60_7, hcz60_8, -, hfz60_1, hfz60_2, hfz60_3, hfz60_4, hfz60_5, hfz60_6, hfz60_7, hfz60_8⟩ := cn BK280
             obtain ⟨hcz61_0, hcz61_1, hcz61_2, hcz61_3, hcz61_4, hcz61_5, hcz61_6, hcz61_7, hcz61_8, -, hfz61_1, hfz61_2, hfz61_3, hfz61_4, hfz61_5, hfz61_6, hfz61_7, hfz61_8⟩ := cn BK281
             go_wp2_with (first | ((with_reducible refine gate_callee (f := 43) rfl ?_); refine goesL_ (some 68) rfl rfl Try.func43 (by kernel_rfl) rfl #[.int .i64 a0_2] rfl aa_5 ?_; (with_reducible refine (gangwayref5_in.calls a0_2 t287 _ A58.out).mono ?_); rintro e w' ⟨rfl, ⟨nd, rfl⟩⟩; refine ⟨_, rfl, ?_⟩))
             go_meet
             case rel => exact ⟨_, (t287), (a0_2), (0), (0), (0), (([] : List Int)), (.slice none 0 0), aa_0, H', ⟨by have := HJ53.out; first | omega | exact Nat.le_refl _⟩, ⟨⟨_, _, rfl⟩⟩, ⟨by (with_reducible repeat (first | refine blk_drewN ?_ _ | refine blk_drew ?_ | refine blk_alloc ?_ _)); refine blk_far ?_ NB280_281.out _; (with_reducible repeat (first | refine blk_drewN ?_ _ | refine blk_drew ?_ | refine blk_alloc ?_ _)); exact BK280.out⟩, ⟨by (with_reducible repeat (first | refine blk_drewN ?_ _ | refine blk_drew ?_ | refine blk_alloc ?_ _)); refine blk_put (cs := #[.int .i64 a0_0, .int .i64 0, .int .i64 0, .int .i64 0, .int .i64 0, .int .i64 0, .slice none 0 0, .slice none 0 0, .slice none 0 0]) ?_ 2 _ rfl; (with_reducible repeat (first | refine blk_drewN ?_ _ | refine blk_drew ?_ | refine blk_alloc ?_ _)); exact BK281.out⟩, ⟨aa_1⟩⟩
            ·as_aux_lemma =>
              replace c57 := Bool.eq_false_iff.mpr c57
              subst c57
              have H1 : (if t282 = 4 then ((gangwayref5_in.f a0_2).bind fun t288 => (gangwayref5_May.q.l0 kj53 t288 0 a0_0 a0_1 a0_2 a0_3 a0_4 a0_5 l0_6 l0_7 l0_8 a0_0 0 a0_2 0 0 0 l0_6)) else (if t282 = 6 then ((gangwayref5_in.f a0_3).bind fun t291 => (if t291 = true then ((gangwayref5_in.f a0_4).bind fun t292 => (j7 kj53 t292 a0_0 a0_1 a0_2 a0_3 a0_4 a0_5 l0_6 l0_7 l0_8 a0_0 0 0 a0_3 a0_4 0)) else (j7 kj53 false a0_0 a0_1 a0_2 a0_3 a0_4 a0_5 l0_6 l0_7 l0_8 a0_0 0 0 a0_3 a0_4 0))) else (if t282 = 8 then (if a0_5 ≥ (-2147483648) then (j6 kj53 (decide (a0_5 < 2147483648)) a0_0 a0_1 a0_2 a0_3 a0_4 a0_5 l0_6 l0_7 l0_8 a0_0 0 0 0 0 a0_5) else (j6 kj53 false a0_0 a0_1 a0_2 a0_3 a0_4 a0_5 l0_6 l0_7 l0_8 a0_0 0 0 0 0 a0_5)) else (if t282 = 9 then (j5 kj53 true a0_0 a0_1 a0_2 a0_3 a0_4 a0_5 l0_6 l0_7 l0_8 a0_0 0 0 0 0 a0_5) else (j5 kj53 true a0_0 a0_1 a0_2 a0_3 a0_4 a0_5 l0_6 l0_7 l0_8 a0_0 0 0 0 0 0))))) = some r := by rw [if_neg (show ¬ (false = true) by decide)] at H; exact H
              clear H
              have H := H1
              clear H1
              have HC62 := am_ H
              clear H
              go_upto_if 69 with (fail)
              (try (with_reducible refine Go.Proofs.YtlahigmoljflkaaO.last_in ?_; intro K_ hK_))
              go_cut [6, 69] (fun v6 v69 wc => ∃ (kq : Nat) (x6_61 : Bool) (x1z_61 : Int) (x2z_61 : Int) (x3z_61 : Int) (x4z_61 : Int) (x5z_61 : List Int) (u5z : Value), v6 = .bool x6_61 ∧ Aside0 (j8 kq x6_61 a0_0 a0_1 a0_2 a0_3 a0_4 a0_5 l0_6 l0_7 l0_8 a0_0 0 x1z_61 x2z_61 x3z_61 x4z_61 x5z_61 = some r) ∧ Aside0 (kq ≤ kj53) ∧ Aside0 (∃ (Aq_ : Option Addr) (cq_ : Nat), u5z = .slice Aq_ x5z_61.length cq_) ∧ Aside0 (wc.heap[gb280]? = some (.cells #[.int .i64 a0_0, .int .i64 a0_1, .int .i64 a0_2, .int .i64 a0_3, .int .i64 a0_4, .int .i64 a0_5, (.slice A0_6 l0_6.length c0_6), (.slice A0_7 l0_7.length c0_7), (.slice A0_8 l0_8.length c0_8)] 45 (0, 0))) ∧ Aside0 (wc.heap[gb281]? = some (.cells #[.int .i64 a0_0, .int .i64 0, .int .i64 x1z_61, .int .i64 x2z_61, .int .i64 x3z_61, .int .i64 x4z_61, u5z, (.slice none 0 0), (.slice none 0 0)] 45 (0, 0))) ∧ Aside0 (Below w.heap.size w wc))
              case first =>
               as_aux_lemma =>
                have H := HC62.out
                clear HC62
                by_cases c63 : t282 = 4
                ·as_aux_lemma =>
                  rw [if_pos c63] at H
                  have c63b0 : (t282 == 4) = true := beq_iff_eq.mpr c63
                  have c63b1 : (t282 != 4) = false := bne_eq_false_iff_eq.mpr c63
                  clear c63
                  (first | rw [c63b0] | (simp only [i64_w, i32_w]; rw [c63b0]) | skip)
                  replace H := bm_ H
                  obtain ⟨t288, A640, H⟩ := H
                  replace H : (gangwayref5_May.q.l0 kj53 t288 0 a0_0 a0_1 a0_2 a0_3 a0_4 a0_5 l0_6 l0_7 l0_8 a0_0 0 a0_2 0 0 0 l0_6) = some r := H
                  have A64 := am_ A640
                  clear A640
                  have H' := am_ H
                  clear H
                  have hnb65 := NB280_281.out
                  have hnc65 := NB281_280.out
                  obtain ⟨hcz66_0, hcz66_1, hcz66_2, hcz66_3, hcz66_4, hcz66_5, hcz66_6, hcz66_7, hcz66_8, -, hfz66_1, hfz66_2, hfz66_3, hfz66_4, hfz66_5, hfz66_6, hfz66_7, hfz66_8⟩ := cn BK280
                  obtain ⟨hcz67_0, hcz67_1, hcz67_2, hcz67_3, hcz67_4, hcz67_5, hcz67_6, hcz67_7, hcz67_8, -, hfz67_1, hfz67_2, hfz67_3, hfz67_4, hfz67_5, hfz67_6, hfz67_7, hfz67_8⟩ := cn BK281
                  go_wp2_with (first | ((with_reducible refine gate_callee (f := 43) rfl ?_); refine goesL_ (some 79) rfl rfl Try.func43 (by kernel_rfl) rfl #[.int .i64 a0_2] rfl aa_5 ?_; (with_reducible refine (gangwayref5_in.calls a0_2 t288 _ A64.out).mono ?_); rintro e w' ⟨rfl, ⟨nd, rfl⟩⟩; refine ⟨_, rfl, ?_⟩))
                  go_loopg [6, 7] kj53 (fun kq v6 v7 w' => ∃ (x6_2 : Bool) (x7_2 : Int), v6 = .bool x6_2 ∧ v7 = .int .i64 x7_2 ∧ Aside0 (gangwayref5_May.q.l0 kq x6_2 x7_2 a0_0 a0_1 a0_2 a0_3 a0_4 a0_5 l0_6 l0_7 l0_8 a0_0 0 a0_2 0 0 0 l0_6 = some r) ∧ Aside0 (kq ≤ kj53) ∧ Aside0 (w'.heap[gb280]? = some (.cells #[.int .i64 a0_0, .int .i64 a0_1, .int .i64 a0_2, .int .i64 a0_3, .int .i64 a0_4, .int .i64 a0_5, (.slice A0_6 l0_6.length c0_6), (.slice A0_7 l0_7.length c0_7), (.slice A0_8 l0_8.length c0_8)] 45 (0, 0))) ∧ Aside0 (w'.heap[gb281]? = some (.cells #[.int .i64 a0_0, .int .i64 0, .int .i64 a0_2, .int .i64 0, .int .i64 0, .int .i64 0, (.slice A0_6 l0_6.length c0_6), (.slice none 0 0), (.slice none 0 0)] 45 (0, 0))) ∧ Aside0 (Below w.heap.size w w'))
                  case atStart => exact ⟨(t288), (0), aa_0, aa_0, H', ⟨Nat.le_refl _⟩, ⟨aa_4⟩, ⟨by (with_reducible repeat (first | refine blk_drewN ?_ _ | refine blk_drew ?_ | refine blk_alloc ?_ _)); refine blk_put (cs := #[.int .i64 a0_0, .int .i64 0, .int .i64 a0_2, .int .i64 0, .int .i64 0, .int .i64 0, .slice none 0 0, .slice none 0 0, .slice none 0 0]) ?_ 6 _ rfl; (with_reducible repeat (first | refine blk_drewN ?_ _ | refine blk_drew ?_ | refine blk_alloc ?_ _)); refine blk_put (cs := #[.int .i64 a0_0, .int .i64 0, .int .i64 0, .int .i64 0, .int .i64 0, .int .i64 0, .slice none 0 0, .slice none 0 0, .slice none 0 0]) ?_ 2 _ rfl; (with_reducible repeat (first | refine blk_drewN ?_ _ | refine blk_drew ?_ | refine blk_alloc ?_ _)); exact BK281.out⟩, ⟨aa_1⟩⟩
                  case round =>
                   as_aux_lemma =>
                    clear H'
                    try clear c57
                    try clear c63b0
                    try clear c63b1
                    try clear hcz66_0
                    try clear hcz66_1
                    try clear hcz66_2
                    try clear hcz66_3
                    try clear hcz66_4
                    try clear hcz66_5
                    try clear hcz66_6
                    try clear hcz66_7
                    try clear hcz66_8
                    try clear hcz67_0
                    try clear hcz67_1
                    try clear hcz67_2
                    try clear hcz67_3
                    try clear hcz67_4
                    try clear hcz67_5
                    try clear hcz67_6
                    try clear hcz67_7
                    try clear hcz67_8
                    try clear hfz66_1
                    try clear hfz66_2
                    try clear hfz66_3
                    try clear hfz66_4
                    try clear hfz66_5
                    try clear hfz66_6
                    try clear hfz66_7
                    try clear hfz66_8
                    try clear hfz67_1
                    try clear hfz67_2
                    try clear hfz67_3
                    try clear hfz67_4
                    try clear hfz67_5
                    try clear hfz67_6
                    try clear hfz67_7
                    try clear hfz67_8
                    obtain ⟨x6_2, x7_2, rfl, rfl, HA, HK2, BK280, BK281, HB⟩ := hrel
                    cases gk with
                    | zero => exact absurd HA.out (by simp [gangwayref5_May.q.l0])
                    | succ k2 =>
                     have H := HA.out
                     clear HA
                     simp only [gangwayref5_May.q.l0] at H
                     by_cases c68 : x7_2 < (l0_6.length : Int)
                     ·as_aux_lemma =>
                       rw [if_pos c68] at H
                       have c68b0 : decide (x7_2 < (l0_6.length : Int)) = true := decide_eq_true c68
                       clear c68
                       have HC69 := am_ H
                       clear H
                       have hnb70 := NB280_281.out
                       have hnc70 := NB281_280.out
                       obtain ⟨hcz71_0, hcz71_1, hcz71_2, hcz71_3, hcz71_4, hcz71_5, hcz71_6, hcz71_7, hcz71_8, -, hfz71_1, hfz71_2, hfz71_3, hfz71_4, hfz71_5, hfz71_6, hfz71_7, hfz71_8⟩ := cn BK280
                       go_upto_block 2 with (fail)
                       (try (with_reducible refine Go.Proofs.YtlahigmoljflkaaO.last_in ?_; intro K_ hK_))
                       go_cut [6] (fun v6 wc => ∃ (kq : Nat) (x6_68 : Bool), v6 = .bool x6_68 ∧ Aside0 (j4 kq x6_68 x7_2 a0_0 a0_1 a0_2 a0_3 a0_4 a0_5 l0_6 l0_7 l0_8 a0_0 0 a0_2 0 0 0 l0_6 = some r) ∧ Aside0 (kq ≤ k2) ∧ Aside0 (wc.heap[gb280]? = some (.cells #[.int .i64 a0_0, .int .i64 a0_1, .int .i64 a0_2, .int .i64 a0_3, .int .i64 a0_4, .int .i64 a0_5, (.slice A0_6 l0_6.length c0_6), (.slice A0_7 l0_7.length c0_7), (.slice A0_8 l0_8.length c0_8)] 45 (0, 0))) ∧ Aside0 (wc.heap[gb281]? = some (.cells #[.int .i64 a0_0, .int .i64 0, .int .i64 a0_2, .int .i64 0, .int .i64 0, .int .i64 0, (.slice A0_6 l0_6.length c0_6), (.slice none 0 0), (.slice none 0 0)] 45 (0, 0))) ∧ Aside0 (Below w.heap.size w wc))
                       case first =>
                        as_aux_lemma =>
                         have H := HC69.out
                         clear HC69
                         by_cases c72 : x6_2 = true
                         ·as_aux_lemma =>
                           subst c72
                           have H1 : (if 0 ≤ x7_2 then ((gangwayref5_in.f (rd l0_6 x7_2)).bind fun t290 => (j4 k2 t290 x7_2 a0_0 a0_1 a0_2 a0_3 a0_4 a0_5 l0_6 l0_7 l0_8 a0_0 0 a0_2 0 0 0 l0_6)) else (none)) = some r := by rw [if_pos rfl] at H; first | exact H | (rw [if_pos trivial] at H; rw [if_pos rfl]; exact H)
                           clear H
                           have H := H1
                           clear H1
                           by_cases c73 : 0 ≤ x7_2
                           ·rw [if_pos c73] at H
                            have c73b0 : decide (0 ≤ x7_2) = true := decide_eq_true c73
                            clear c73
                            (first | rw [c73b0] | (simp only [i64_w, i32_w]; rw [c73b0]) | skip)
                            replace H := bm_ H
                            obtain ⟨t290, A740, H⟩ := H
                            replace H : (j4 k2 t290 x7_2 a0_0 a0_1 a0_2 a0_3 a0_4 a0_5 l0_6 l0_7 l0_8 a0_0 0 a0_2 0 0 0 l0_6) = some r := H
                            have A74 := am_ A740
                            clear A740
                            have H' := am_ H
                            clear H
                            have hnb75 := NB280_281.out
                            have hnc75 := NB281_280.out
                            obtain ⟨hcz76_0, hcz76_1, hcz76_2, hcz76_3, hcz76_4, hcz76_5, hcz76_6, hcz76_7, hcz76_8, -, hfz76_1, hfz76_2, hfz76_3, hfz76_4, hfz76_5, hfz76_6, hfz76_7, hfz76_8⟩ := cn BK280
                            have p289 : 0 ≤ (x7_2 : Int) := of_decide_eq_true (by first | (with_reducible assumption) | assumption)
                            have q289 : x7_2 < (l0_6.length : Int) := of_decide_eq_true (by first | (with_reducible assumption) | assumption)
                            obtain ⟨ad289, e289, hx289_0⟩ := Kd.at_int HR0_6.out x7_2 p289 q289
                            cases e289
                            replace hx289_0 := up HB hx289_0
                            replace p289 := eq_true p289
                            replace q289 := eq_true q289
                            go_wp2_with (first | (go_at_call 43; (with_reducible refine (gangwayref5_in.calls (rd l0_6 x7_2) t290 _ A74.out).mono ?_); rintro e w' ⟨rfl, ⟨nd, rfl⟩⟩))
                            go_meet
                            case rel => exact ⟨_, (t290), aa_0, H', ⟨by have := HJ53.out; have := HK2.out; first | omega | exact Nat.le_refl _⟩, ⟨aa_7⟩, ⟨aa_8⟩, ⟨aa_1⟩⟩
                           ·rw [if_neg c73] at H
                            exact absurd H (by simp)
                         ·replace c72 := Bool.eq_false_iff.mpr c72
                          subst c72
                          have H1 : (j4 k2 false x7_2 a0_0 a0_1 a0_2 a0_3 a0_4 a0_5 l0_6 l0_7 l0_8 a0_0 0 a0_2 0 0 0 l0_6) = some r := by rw [if_neg (show ¬ (false = true) by decide)] at H; exact H
                          clear H
                          have H := H1
                          clear H1
                          have H' := am_ H
                          clear H
                          go_wp2
                          go_meet
                          case rel => exact ⟨_, (false), aa_0, H', ⟨by have := HJ53.out; have := HK2.out; first | omega | exact Nat.le_refl _⟩, ⟨aa_7⟩, ⟨aa_8⟩, ⟨aa_1⟩⟩
                       case rest =>
                        as_aux_lemma =>
                         clear HC69
                         try clear c68b0
                         try clear hcz71_0
                         try clear hcz71_1
                         try clear hcz71_2
                         try clear hcz71_3
                         try clear hcz71_4
                         try clear hcz71_5
                         try clear hcz71_6
                         try clear hcz71_7
                         try clear hcz71_8
                         try clear hfz71_1
                         try clear hfz71_2
                         try clear hfz71_3
                         try clear hfz71_4
                         try clear hfz71_5
                         try clear hfz71_6
                         try clear hfz71_7
                         try clear hfz71_8
                         obtain ⟨kq, x6_68, rfl, HA, HJ68, BK280, BK281, HB⟩ := hcut
                         cases kq with
                         | zero => exact absurd HA.out (by simp [j4])
                         | succ kj68 =>
                          have H := HA.out
                          clear HA
                          simp only [j4] at H
                          have H' := am_ H
                          clear H
                          go_wp2
                          go_roundg kj68
                          case measure => have := HJ53.out; have := HK2.out; have := HJ68.out; omega
                          case rel => exact ⟨(x6_68), (wrap64 (x7_2 + 1)), aa_0, aa_0, H', ⟨by have := HJ53.out; have := HK2.out; have := HJ68.out; omega⟩, ⟨aa_7⟩, ⟨aa_8⟩, ⟨aa_1⟩⟩
                     ·rw [if_neg c68] at H
                      have c68b0 : decide (x7_2 < (l0_6.length : Int)) = false := decide_eq_false c68
                      clear c68
                      have H' := am_ H
                      clear H
                      have hnb77 := NB280_281.out
                      have hnc77 := NB281_280.out
                      obtain ⟨hcz78_0, hcz78_1, hcz78_2, hcz78_3, hcz78_4, hcz78_5, hcz78_6, hcz78_7, hcz78_8, -, hfz78_1, hfz78_2, hfz78_3, hfz78_4, hfz78_5, hfz78_6, hfz78_7, hfz78_8⟩ := cn BK280
                      go_wp2
                      go_meet
                      case rel => exact ⟨_, (x6_2), (a0_2), (0), (0), (0), (l0_6), (.slice A0_6 l0_6.length c0_6), aa_0, H', ⟨by have := HJ53.out; have := HK2.out; first | omega | exact Nat.le_refl _⟩, ⟨⟨_, _, rfl⟩⟩, ⟨aa_7⟩, ⟨aa_8⟩, ⟨aa_1⟩⟩
                ·as_aux_lemma =>
                  rw [if_neg c63] at H
                  have c63b0 : (t282 == 4) = false := beq_eq_false_iff_ne.mpr c63
                  have c63b1 : (t282 != 4) = true := bne_iff_ne.mpr c63
                  (first | rw [c63b0] | (simp only [i64_w, i32_w]; rw [c63b0]) | skip)
                  have HC79 := am_ H
                  clear H
                  go_upto_if 96 with (fail)
                  (try (with_reducible refine Go.Proofs.YtlahigmoljflkaaO.last_in ?_; intro K_ hK_))
                  go_cut [6, 96] (fun v6 v96 wc => ∃ (kq : Nat) (x6_78 : Bool) (x2z_78 : Int) (x3z_78 : Int) (x4z_78 : Int), v6 = .bool x6_78 ∧ Aside0 (j7 kq x6_78 a0_0 a0_1 a0_2 a0_3 a0_4 a0_5 l0_6 l0_7 l0_8 a0_0 0 0 x2z_78 x3z_78 x4z_78 = some r) ∧ Aside0 (kq ≤ kj53) ∧ Aside0 (wc.heap[gb280]? = some (.cells #[.int .i64 a0_0, .int .i64 a0_1, .int .i64 a0_2, .int .i64 a0_3, .int .i64 a0_4, .int .i64 a0_5, (.slice A0_6 l0_6.length c0_6), (.slice A0_7 l0_7.length c0_7), (.slice A0_8 l0_8.length c0_8)] 45 (0, 0))) ∧ Aside0 (wc.heap[gb281]? = some (.cells #[.int .i64 a0_0, .int .i64 0, .int .i64 0, .int .i64 x2z_78, .int .i64 x3z_78, .int .i64 x4z_78, (.slice none 0 0), (.slice none 0 0), (.slice none 0 0)] 45 (0, 0))) ∧ Aside0 (Below w.heap.size w wc))
                  case first =>
                   as_aux_lemma =>
                    have H := HC79.out
                    clear HC79
                    by_cases c80 : t282 = 6
                    ·as_aux_lemma =>
                      rw [if_pos c80] at H
                      have c80b0 : (t282 == 6) = true := beq_iff_eq.mpr c80
                      have c80b1 : (t282 != 6) = false := bne_eq_false_iff_eq.mpr c80
                      clear c80
                      (first | rw [c80b0] | (simp only [i64_w, i32_w]; rw [c80b0]) | skip)
                      replace H := bm_ H
                      obtain ⟨t291, A810, H⟩ := H
                      replace H : (if t291 = true then ((gangwayref5_in.f a0_4).bind fun t292 => (j7 kj53 t292 a0_0 a0_1 a0_2 a0_3 a0_4 a0_5 l0_6 l0_7 l0_8 a0_0 0 0 a0_3 a0_4 0)) else (j7 kj53 false a0_0 a0_1 a0_2 a0_3 a0_4 a0_5 l0_6 l0_7 l0_8 a0_0 0 0 a0_3 a0_4 0)) = some r := H
                      have A81 := am_ A810
                      clear A810
                      by_cases c82 : t291 = true
                      ·subst c82
                       have H1 : ((gangwayref5_in.f a0_4).bind fun t292 => (j7 kj53 t292 a0_0 a0_1 a0_2 a0_3 a0_4 a0_5 l0_6 l0_7 l0_8 a0_0 0 0 a0_3 a0_4 0)) = some r := by rw [if_pos rfl] at H; first | exact H | (rw [if_pos trivial] at H; rw [if_pos rfl]; exact H)
                       clear H
                       have H := H1
                       clear H1
                       replace H := bm_ H
                       obtain ⟨t292, A830, H⟩ := H
                       replace H : (j7 kj53 t292 a0_0 a0_1 a0_2 a0_3 a0_4 a0_5 l0_6 l0_7 l0_8 a0_0 0 0 a0_3 a0_4 0) = some r := H
                       have A83 := am_ A830
                       clear A830
                       have H' := am_ H
                       clear H
                       have hnb84 := NB280_281.out
                       have hnc84 := NB281_280.out
                       obtain ⟨hcz85_0, hcz85_1, hcz85_2, hcz85_3, hcz85_4, hcz85_5, hcz85_6, hcz85_7, hcz85_8, -, hfz85_1, hfz85_2, hfz85_3, hfz85_4, hfz85_5, hfz85_6, hfz85_7, hfz85_8⟩ := cn BK280
                       obtain ⟨hcz86_0, hcz86_1, hcz86_2, hcz86_3, hcz86_4, hcz86_5, hcz86_6, hcz86_7, hcz86_8, -, hfz86_1, hfz86_2, hfz86_3, hfz86_4, hfz86_5, hfz86_6, hfz86_7, hfz86_8⟩ := cn BK281
                       go_wp2_with (first | ((with_reducible refine gate_callee (f := 43) rfl ?_); refine goesL_ (some 106) rfl rfl Try.func43 (by kernel_rfl) rfl #[.int .i64 a0_3] rfl aa_5 ?_; (with_reducible refine (gangwayref5_in.calls a0_3 true _ A81.out).mono ?_); rintro e w' ⟨rfl, ⟨nd, rfl⟩⟩; refine ⟨_, rfl, ?_⟩) | (go_at_call 43; (with_reducible refine (gangwayref5_in.calls a0_4 t292 _ A83.out).mono ?_); rintro e w' ⟨rfl, ⟨nd, rfl⟩⟩))
                       go_meet
                       case rel => exact ⟨_, (t292), (a0_3), (a0_4), (0), aa_0, H', ⟨by have := HJ53.out; first | omega | exact Nat.le_refl _⟩, ⟨aa_4⟩, ⟨by (with_reducible repeat (first | refine blk_drewN ?_ _ | refine blk_drew ?_ | refine blk_alloc ?_ _)); refine blk_put (cs := #[.int .i64 a0_0, .int .i64 0, .int .i64 0, .int .i64 a0_3, .int .i64 0, .int .i64 0, .slice none 0 0, .slice none 0 0, .slice none 0 0]) ?_ 4 _ rfl; (with_reducible repeat (first | refine blk_drewN ?_ _ | refine blk_drew ?_ | refine blk_alloc ?_ _)); refine blk_put (cs := #[.int .i64 a0_0, .int .i64 0, .int .i64 0, .int .i64 0, .int .i64 0, .int .i64 0, .slice none 0 0, .slice none 0 0, .slice none 0 0]) ?_ 3 _ rfl; (with_reducible repeat (first | refine blk_drewN ?_ _ | refine blk_drew ?_ | refine blk_alloc ?_ _)); exact BK281.out⟩, ⟨aa_1⟩⟩
                      ·replace c82 := Bool.eq_false_iff.mpr c82
                       subst c82
                       have H1 : (j7 kj53 false a0_0 a0_1 a0_2 a0_3 a0_4 a0_5 l0_6 l0_7 l0_8 a0_0 0 0 a0_3 a0_4 0) = some r := by rw [if_neg (show ¬ (false = true) by decide)] at H; exact H
                       clear H
                       have H := H1
                       clear H1
                       have H' := am_ H
                       clear H
                       have hnb87 := NB280_281.out
                       have hnc87 := NB281_280.out
                       obtain ⟨hcz88_0, hcz88_1, hcz88_2, hcz88_3, hcz88_4, hcz88_5, hcz88_6, hcz88_7, hcz88_8, -, hfz88_1, hfz88_2, hfz88_3, hfz88_4, hfz88_5, hfz88_6, hfz88_7, hfz88_8⟩ := cn BK280
                       obtain ⟨hcz89_0, hcz89_1, hcz89_2, hcz89_3, hcz89_4, hcz89_5, hcz89_6, hcz89_7, hcz89_8, -, hfz89_1, hfz89_2, hfz89_3, hfz89_4, hfz89_5, hfz89_6, hfz89_7, hfz89_8⟩ := cn BK281
                       go_wp2_with (first | ((with_reducible refine gate_callee (f := 43) rfl ?_); refine goesL_ (some 106) rfl rfl Try.func43 (by kernel_rfl) rfl #[.int .i64 a0_3] rfl aa_5 ?_; (with_reducible refine (gangwayref5_in.calls a0_3 false _ A81.out).mono ?_); rintro e w' ⟨rfl, ⟨nd, rfl⟩⟩; refine ⟨_, rfl, ?_⟩))
                       go_meet
                       case rel => exact ⟨_, (false), (a0_3), (a0_4), (0), aa_0, H', ⟨by have := HJ53.out; first | omega | exact Nat.le_refl _⟩, ⟨aa_4⟩, ⟨by (with_reducible repeat (first | refine blk_drewN ?_ _ | refine blk_drew ?_ | refine blk_alloc ?_ _)); refine blk_put (cs := #[.int .i64 a0_0, .int .i64 0, .int .i64 0, .int .i64 a0_3, .int .i64 0, .int .i64 0, .slice none 0 0, .slice none 0 0, .slice none 0 0]) ?_ 4 _ rfl; (with_reducible repeat (first | refine blk_drewN ?_ _ | refine blk_drew ?_ | refine blk_alloc ?_ _)); refine blk_put (cs := #[.int .i64 a0_0, .int .i64 0, .int .i64 0, .int .i64 0, .int .i64 0, .int .i64 0, .slice none 0 0, .slice none 0 0, .slice none 0 0]) ?_ 3 _ rfl; (with_reducible repeat (first | refine blk_drewN ?_ _ | refine blk_drew ?_ | refine blk_alloc ?_ _)); exact BK281.out⟩, ⟨aa_1⟩⟩
                    ·as_aux_lemma =>
                      rw [if_neg c80] at H
                      have c80b0 : (t282 == 6) = false := beq_eq_false_iff_ne.mpr c80
                      have c80b1 : (t282 != 6) = true := bne_iff_ne.mpr c80
                      (first | rw [c80b0] | (simp only [i64_w, i32_w]; rw [c80b0]) | skip)
                      have HC90 := am_ H
                      clear H
                      go_upto_if 112 with (fail)
                      (try (with_reducible refine Go.Proofs.YtlahigmoljflkaaO.last_in ?_; intro K_ hK_))
                      go_cut [6, 112] (fun v6 v112 wc => ∃ (kq : Nat) (x6_89 : Bool) (x4z_89 : Int), v6 = .bool x6_89 ∧ Aside0 (j6 kq x6_89 a0_0 a0_1 a0_2 a0_3 a0_4 a0_5 l0_6 l0_7 l0_8 a0_0 0 0 0 0 x4z_89 = some r) ∧ Aside0 (kq ≤ kj53) ∧ Aside0 (wc.heap[gb280]? = some (.cells #[.int .i64 a0_0, .int .i64 a0_1, .int .i64 a0_2, .int .i64 a0_3, .int .i64 a0_4, .int .i64 a0_5, (.slice A0_6 l0_6.length c0_6), (.slice A0_7 l0_7.length c0_7), (.slice A0_8 l0_8.length c0_8)] 45 (0, 0))) ∧ Aside0 (wc.heap[gb281]? = some (.cells #[.int .i64 a0_0, .int .i64 0, .int .i64 0, .int .i64 0, .int .i64 0, .int .i64 x4z_89, (.slice none 0 0), (.slice none 0 0), (.slice none 0 0)] 45 (0, 0))) ∧ Aside0 (Below w.heap.size w wc))
                      case first =>
                       as_aux_lemma =>
                        have H := HC90.out
                        clear HC90
                        by_cases c91 : t282 = 8
                        ·as_aux_lemma =>
                          rw [if_pos c91] at H
                          have c91b0 : (t282 == 8) = true := beq_iff_eq.mpr c91
                          have c91b1 : (t282 != 8) = false := bne_eq_false_iff_eq.mpr c91
                          clear c91
                          (first | rw [c91b0] | (simp only [i64_w, i32_w]; rw [c91b0]) | skip)
                          by_cases c92 : a0_5 ≥ (-2147483648)
                          ·rw [if_pos c92] at H
                           have c92b0 : decide ((-2147483648) ≤ a0_5) = true := decide_eq_true c92
                           clear c92
                           have H' := am_ H
                           clear H
                           have hnb93 := NB280_281.out
                           have hnc93 := NB281_280.out
                           obtain ⟨hcz94_0, hcz94_1, hcz94_2, hcz94_3, hcz94_4, hcz94_5, hcz94_6, hcz94_7, hcz94_8, -, hfz94_1, hfz94_2, hfz94_3, hfz94_4, hfz94_5, hfz94_6, hfz94_7, hfz94_8⟩ := cn BK280
                           obtain ⟨hcz95_0, hcz95_1, hcz95_2, hcz95_3, hcz95_4, hcz95_5, hcz95_6, hcz95_7, hcz95_8, -, hfz95_1, hfz95_2, hfz95_3, hfz95_4, hfz95_5, hfz95_6, hfz95_7, hfz95_8⟩ := cn BK281
                           go_wp2
                           go_meet
                           case rel => exact ⟨_, (decide (a0_5 < 2147483648)), (a0_5), aa_0, H', ⟨by have := HJ53.out; first | omega | exact Nat.le_refl _⟩, ⟨by (with_reducible repeat (first | refine blk_drewN ?_ _ | refine blk_drew ?_ | refine blk_alloc ?_ _)); refine blk_far ?_ NB280_281.out _; (with_reducible repeat (first | refine blk_drewN ?_ _ | refine blk_drew ?_ | refine blk_alloc ?_ _)); exact BK280.out⟩, ⟨by (with_reducible repeat (first | refine blk_drewN ?_ _ | refine blk_drew ?_ | refine blk_alloc ?_ _)); refine blk_put (cs := #[.int .i64 a0_0, .int .i64 0, .int .i64 0, .int .i64 0, .int .i64 0, .int .i64 0, .slice none 0 0, .slice none 0 0, .slice none 0 0]) ?_ 5 _ rfl; (with_reducible repeat (first | refine blk_drewN ?_ _ | refine blk_drew ?_ | refine blk_alloc ?_ _)); exact BK281.out⟩, ⟨aa_1⟩⟩
                          ·rw [if_neg c92] at H
                           have c92b0 : decide ((-2147483648) ≤ a0_5) = false := decide_eq_false c92
                           clear c92
                           have H' := am_ H
                           clear H
                           have hnb96 := NB280_281.out
                           have hnc96 := NB281_280.out
                           obtain ⟨hcz97_0, hcz97_1, hcz97_2, hcz97_3, hcz97_4, hcz97_5, hcz97_6, hcz97_7, hcz97_8, -, hfz97_1, hfz97_2, hfz97_3, hfz97_4, hfz97_5, hfz97_6, hfz97_7, hfz97_8⟩ := cn BK280
                           obtain ⟨hcz98_0, hcz98_1, hcz98_2, hcz98_3, hcz98_4, hcz98_5, hcz98_6, hcz98_7, hcz98_8, -, hfz98_1, hfz98_2, hfz98_3, hfz98_4, hfz98_5, hfz98_6, hfz98_7, hfz98_8⟩ := cn BK281
                           go_wp2
                           go_meet
                           case rel => exact ⟨_, (false), (a0_5), aa_0, H', ⟨by have := HJ53.out; first | omega | exact Nat.le_refl _⟩, ⟨by (with_reducible repeat (first | refine blk_drewN ?_ _ | refine blk_drew ?_ | refine blk_alloc ?_ _)); refine blk_far ?_ NB280_281.out _; (with_reducible repeat (first | refine blk_drewN ?_ _ | refine blk_drew ?_ | refine blk_alloc ?_ _)); exact BK280.out⟩, ⟨by (with_reducible repeat (first | refine blk_drewN ?_ _ | refine blk_drew ?_ | refine blk_alloc ?_ _)); refine blk_put (cs := #[.int .i64 a0_0, .int .i64 0, .int .i64 0, .int .i64 0, .int .i64 0, .int .i64 0, .slice none 0 0, .slice none 0 0, .slice none 0 0]) ?_ 5 _ rfl; (with_reducible repeat (first | refine blk_drewN ?_ _ | refine blk_drew ?_ | refine blk_alloc ?_ _)); exact BK281.out⟩, ⟨aa_1⟩⟩
                        ·as_aux_lemma =>
                          rw [if_neg c91] at H
                          have c91b0 : (t282 == 8) = false := beq_eq_false_iff_ne.mpr c91
                          have c91b1 : (t282 != 8) = true := bne_iff_ne.mpr c91
                          (first | rw [c91b0] | (simp only [i64_w, i32_w]; rw [c91b0]) | skip)
                          have HC99 := am_ H
                          clear H
                          go_upto_if 125 with (fail)
                          (try (with_reducible refine Go.Proofs.YtlahigmoljflkaaO.last_in ?_; intro K_ hK_))
                          go_cut [125] (fun v125 wc => ∃ (kq : Nat) (x4z_98 : Int), Aside0 (j5 kq true a0_0 a0_1 a0_2 a0_3 a0_4 a0_5 l0_6 l0_7 l0_8 a0_0 0 0 0 0 x4z_98 = some r) ∧ Aside0 (kq ≤ kj53) ∧ Aside0 (wc.heap[gb280]? = some (.cells #[.int .i64 a0_0, .int .i64 a0_1, .int .i64 a0_2, .int .i64 a0_3, .int .i64 a0_4, .int .i64 a0_5, (.slice A0_6 l0_6.length c0_6), (.slice A0_7 l0_7.length c0_7), (.slice A0_8 l0_8.length c0_8)] 45 (0, 0))) ∧ Aside0 (wc.heap[gb281]? = some (.cells #[.int .i64 a0_0, .int .i64 0, .int .i64 0, .int .i64 0, .int .i64 0, .int .i64 x4z_98, (.slice none 0 0), (.slice none 0 0), (.slice none 0 0)] 45 (0, 0))) ∧ Aside0 (Below w.heap.size w wc))
                          case first =>
                           as_aux_lemma =>
                            have H := HC99.out
                            clear HC99
                            by_cases c100 : t282 = 9
                            ·rw [if_pos c100] at H
                             have c100b0 : (t282 == 9) = true := beq_iff_eq.mpr c100
                             have c100b1 : (t282 != 9) = false := bne_eq_false_iff_eq.mpr c100
                             clear c100
                             (first | rw [c100b0] | (simp only [i64_w, i32_w]; rw [c100b0]) | skip)
                             have H' := am_ H
                             clear H
                             have hnb101 := NB280_281.out
                             have hnc101 := NB281_280.out
                             obtain ⟨hcz102_0, hcz102_1, hcz102_2, hcz102_3, hcz102_4, hcz102_5, hcz102_6, hcz102_7, hcz102_8, -, hfz102_1, hfz102_2, hfz102_3, hfz102_4, hfz102_5, hfz102_6, hfz102_7, hfz102_8⟩ := cn BK280
                             obtain ⟨hcz103_0, hcz103_1, hcz103_2, hcz103_3, hcz103_4, hcz103_5, hcz103_6, hcz103_7, hcz103_8, -, hfz103_1, hfz103_2, hfz103_3, hfz103_4, hfz103_5, hfz103_6, hfz103_7, hfz103_8⟩ := cn BK281
                             go_wp2
                             go_meet
                             case rel => exact ⟨_, (a0_5), H', ⟨by have := HJ53.out; first | omega | exact Nat.le_refl _⟩, ⟨by (with_reducible repeat (first | refine blk_drewN ?_ _ | refine blk_drew ?_ | refine blk_alloc ?_ _)); refine blk_far ?_ NB280_281.out _; (with_reducible repeat (first | refine blk_drewN ?_ _ | refine blk_drew ?_ | refine blk_alloc ?_ _)); exact BK280.out⟩, ⟨by (with_reducible repeat (first | refine blk_drewN ?_ _ | refine blk_drew ?_ | refine blk_alloc ?_ _)); refine blk_put (cs := #[.int .i64 a0_0, .int .i64 0, .int .i64 0, .int .i64 0, .int .i64 0, .int .i64 0, .slice none 0 0, .slice none 0 0, .slice none 0 0]) ?_ 5 _ rfl; (with_reducible repeat (first | refine blk_drewN ?_ _ | refine blk_drew ?_ | refine blk_alloc ?_ _)); exact BK281.out⟩, ⟨aa_1⟩⟩
                            ·rw [if_neg c100] at H
                             have c100b0 : (t282 == 9) = false := beq_eq_false_iff_ne.mpr c100
                             have c100b1 : (t282 != 9) = true := bne_iff_ne.mpr c100
                             (first | rw [c100b0] | (simp only [i64_w, i32_w]; rw [c100b0]) | skip)
                             have H' := am_ H
                             clear H
                             go_wp2
                             go_meet
                             case rel => exact ⟨_, (0), H', ⟨by have := HJ53.out; first | omega | exact Nat.le_refl _⟩, ⟨aa_7⟩, ⟨aa_8⟩, ⟨aa_1⟩⟩
                          case rest =>
                           as_aux_lemma =>
                            clear HC99
                            try clear c63
                            try clear c63b0
                            try clear c63b1
                            try clear c80
                            try clear c80b0
                            try clear c80b1
                            try clear c91
                            try clear c91b0
                            try clear c91b1
                            obtain ⟨kq, x4z_98, HA, HJ98, BK280, BK281, HB⟩ := hcut
                            cases kq with
                            | zero => exact absurd HA.out (by simp [j5])
                            | succ kj98 =>
                             have H := HA.out
                             clear HA
                             simp only [j5] at H
                             have H' := am_ H
                             clear H
                             go_wp2
                             go_meet
                             case rel => exact ⟨_, (true), (x4z_98), aa_0, H', ⟨by have := HJ53.out; have := HJ98.out; first | omega | exact Nat.le_refl _⟩, ⟨aa_7⟩, ⟨aa_8⟩, ⟨aa_1⟩⟩
                      case rest =>
                       as_aux_lemma =>
                        clear HC90
                        try clear c63
                        try clear c63b0
                        try clear c63b1
                        try clear c80
                        try clear c80b0
                        try clear c80b1
                        obtain ⟨kq, x6_89, x4z_89, rfl, HA, HJ89, BK280, BK281, HB⟩ := hcut
                        cases kq with
                        | zero => exact absurd HA.out (by simp [j6])
                        | succ kj89 =>
                         have H := HA.out
                         clear HA
                         simp only [j6] at H
                         have H' := am_ H
                         clear H
                         go_wp2
                         go_meet
                         case rel => exact ⟨_, (x6_89), (0), (0), (x4z_89), aa_0, H', ⟨by have := HJ53.out; have := HJ89.out; first | omega | exact Nat.le_refl _⟩, ⟨aa_7⟩, ⟨aa_8⟩, ⟨aa_1⟩⟩
                  case rest =>
                   as_aux_lemma =>
                    clear HC79
                    try clear c63
                    try clear c63b0
                    try clear c63b1
                    obtain ⟨kq, x6_78, x2z_78, x3z_78, x4z_78, rfl, HA, HJ78, BK280, BK281, HB⟩ := hcut
                    cases kq with
                    | zero => exact absurd HA.out (by simp [j7])
                    | succ kj78 =>
                     have H := HA.out
                     clear HA
                     simp only [j7] at H
                     have H' := am_ H
                     clear H
                     go_wp2
                     go_meet
                     case rel => exact ⟨_, (x6_78), (0), (x2z_78), (x3z_78), (x4z_78), (([] : List Int)), (.slice none 0 0), aa_0, H', ⟨by have := HJ53.out; have := HJ78.out; first | omega | exact Nat.le_refl _⟩, ⟨⟨_, _, rfl⟩⟩, ⟨aa_7⟩, ⟨aa_8⟩, ⟨aa_1⟩⟩
              case rest =>
               as_aux_lemma =>
                clear HC62
                obtain ⟨kq, x6_61, x1z_61, x2z_61, x3z_61, x4z_61, x5z_61, u5z, rfl, HA, HJ61, HLN_5z, BK280, BK281, HB⟩ := hcut
                obtain ⟨Aq282006_61, cq282006_61, rfl⟩ := HLN_5z.out
                clear HLN_5z
                cases kq with
                | zero => exact absurd HA.out (by simp [j8])
                | succ kj61 =>
                 have H := HA.out
                 clear HA
                 simp only [j8] at H
                 have H' := am_ H
                 clear H
                 go_wp2
                 go_meet
                 case rel => exact ⟨_, (x6_61), (x1z_61), (x2z_61), (x3z_61), (x4z_61), (x5z_61), (.slice Aq282006_61 x5z_61.length cq282006_61), aa_0, H', ⟨by have := HJ53.out; have := HJ61.out; first | omega | exact Nat.le_refl _⟩, ⟨⟨_, _, rfl⟩⟩, ⟨aa_7⟩, ⟨aa_8⟩, ⟨aa_1⟩⟩
          case rest =>
           as_aux_lemma =>
            clear HC56
            obtain ⟨kq, x6_55, x1z_55, x2z_55, x3z_55, x4z_55, x5z_55, u5z, rfl, HA, HJ55, HLN_5z, BK280, BK281, HB⟩ := hcut
            obtain ⟨Aq282006_55, cq282006_55, rfl⟩ := HLN_5z.out
            clear HLN_5z
            cases kq with
            | zero => exact absurd HA.out (by simp [j9])
            | succ kj55 =>
             have H := HA.out
             clear HA
             simp only [j9] at H
             have H' := am_ H
             clear H
             go_wp2
             go_meet
             case rel => exact ⟨_, (x6_55), (0), (x1z_55), (x2z_55), (x3z_55), (x4z_55), (x5z_55), (([] : List (S45))), (([] : List (S45))), (.slice Aq282006_55 x5z_55.length cq282006_55), (.slice none 0 0), (.slice none 0 0), aa_0, H', ⟨by have := HJ53.out; have := HJ55.out; first | omega | exact Nat.le_refl _⟩, ⟨⟨_, _, rfl⟩⟩, ⟨⟨_, _, rfl⟩⟩, ⟨⟨_, _, rfl⟩⟩, ⟨aa_7⟩, ⟨aa_8⟩, ⟨aa_1⟩⟩
   case rest =>
    as_aux_lemma =>
     clear HC11
     try clear c4
     try clear hfz13_1
     try clear hfz13_2
     try clear hfz13_3
     try clear hfz13_4
     try clear hfz13_5
     try clear hfz13_6
     try clear hfz13_7
     try clear hfz13_8
     try clear hfz17_1
     try clear hfz17_2
     try clear hfz17_3
     try clear hfz17_4
     try clear hfz17_5
     try clear hfz17_6
     try clear hfz17_7
     try clear hfz17_8
     obtain ⟨kq, x6_10, x0z_10, x1z_10, x2z_10, x3z_10, x4z_10, x5z_10, x6z_10, x7z_10, u5z, u6z, u7z, rfl, HA, HJ10, HLN_5z, HLN_6z, HLN_7z, BK280, BK281, HB⟩ := hcut
     obtain ⟨Aq282006_10, cq282006_10, rfl⟩ := HLN_5z.out
     clear HLN_5z
     obtain ⟨Aq282007_10, cq282007_10, rfl⟩ := HLN_6z.out
     clear HLN_6z
     obtain ⟨Aq282008_10, cq282008_10, rfl⟩ := HLN_7z.out
     clear HLN_7z
     cases kq with
     | zero => exact absurd HA.out (by simp [j10])
     | succ kj10 =>
      have H := HA.out
      clear HA
      simp only [j10] at H
      have HC104 := am_ H
      clear H
      go_upto_region 36 with (fail)
      (try (with_reducible refine Go.Proofs.YtlahigmoljflkaaO.last_in ?_; intro K_ hK_))
      go_cut [4] (fun v4 wc => ∃ (kq : Nat) (x4_103 : Bool), v4 = .bool x4_103 ∧ Aside0 (j11 kq x4_103 = some r) ∧ Aside0 (kq ≤ kj10) ∧ Aside0 (wc.heap[gb280]? = some (.cells #[.int .i64 a0_0, .int .i64 a0_1, .int .i64 a0_2, .int .i64 a0_3, .int .i64 a0_4, .int .i64 a0_5, (.slice A0_6 l0_6.length c0_6), (.slice A0_7 l0_7.length c0_7), (.slice A0_8 l0_8.length c0_8)] 45 (0, 0))) ∧ Aside0 (Below w.heap.size w wc))
      case first =>
       as_aux_lemma =>
        have H := HC104.out
        clear HC104
        by_cases c105 : x6_10 = true
        ·as_aux_lemma =>
          subst c105
          have H1 : (if a0_0 = a0_0 then (if a0_1 = x0z_10 then (if a0_2 = x1z_10 then (if a0_3 = x2z_10 then (if a0_4 = x3z_10 then (if a0_5 = x4z_10 then (if (l0_6.length : Int) = (x5z_10.length : Int) then (if (l0_7.length : Int) = (x6z_10.length : Int) then (j11 kj10 ((l0_8.length : Int) == (x7z_10.length : Int))) else (j11 kj10 false)) else (j11 kj10 false)) else (j11 kj10 false)) else (j11 kj10 false)) else (j11 kj10 false)) else (j11 kj10 false)) else (j11 kj10 false)) else (j11 kj10 false)) = some r := by rw [if_pos rfl] at H; first | exact H | (rw [if_pos trivial] at H; rw [if_pos rfl]; exact H)
          clear H
          have H := H1
          clear H1
          by_cases c106 : a0_0 = a0_0
          ·as_aux_lemma =>
            rw [if_pos c106] at H
            have c106b0 : (a0_0 == a0_0) = true := beq_iff_eq.mpr c106
            have c106b1 : (a0_0 != a0_0) = false := bne_eq_false_iff_eq.mpr c106
            clear c106
            (first | rw [c106b0] | (simp only [i64_w, i32_w]; rw [c106b0]) | skip)
            by_cases c107 : a0_1 = x0z_10
            ·as_aux_lemma =>
              rw [if_pos c107] at H
              have c107b0 : (a0_1 == x0z_10) = true := beq_iff_eq.mpr c107
              have c107b1 : (a0_1 != x0z_10) = false := bne_eq_false_iff_eq.mpr c107
              clear c107
              by_cases c108 : a0_2 = x1z_10
              ·as_aux_lemma =>
                rw [if_pos c108] at H
                have c108b0 : (a0_2 == x1z_10) = true := beq_iff_eq.mpr c108
                have c108b1 : (a0_2 != x1z_10) = false := bne_eq_false_iff_eq.mpr c108
                clear c108
                by_cases c109 : a0_3 = x2z_10
                ·as_aux_lemma =>
                  rw [if_pos c109] at H
                  have c109b0 : (a0_3 == x2z_10) = true := beq_iff_eq.mpr c109
                  have c109b1 : (a0_3 != x2z_10) = false := bne_eq_false_iff_eq.mpr c109
                  clear c109
                  by_cases c110 : a0_4 = x3z_10
                  ·as_aux_lemma =>
                    rw [if_pos c110] at H
                    have c110b0 : (a0_4 == x3z_10) = true := beq_iff_eq.mpr c110
                    have c110b1 : (a0_4 != x3z_10) = false := bne_eq_false_iff_eq.mpr c110
                    clear c110
                    by_cases c111 : a0_5 = x4z_10
                    ·as_aux_lemma =>
                      rw [if_pos c111] at H
                      have c111b0 : (a0_5 == x4z_10) = true := beq_iff_eq.mpr c111
                      have c111b1 : (a0_5 != x4z_10) = false := bne_eq_false_iff_eq.mpr c111
                      clear c111
                      by_cases c112 : (l0_6.length : Int) = (x5z_10.length : Int)
                      ·as_aux_lemma =>
                        rw [if_pos c112] at H
                        have c112b0 : ((l0_6.length : Int) == (x5z_10.length : Int)) = true := beq_iff_eq.mpr c112
                        have c112b1 : ((l0_6.length : Int) != (x5z_10.length : Int)) = false := bne_eq_false_iff_eq.mpr c112
                        have c112b2 : (l0_6.length == x5z_10.length) = true := by first | simpa using c112 | (simp at c112 ⊢; omega)
                        clear c112
                        by_cases c113 : (l0_7.length : Int) = (x6z_10.length : Int)
                        ·rw [if_pos c113] at H
                         have c113b0 : ((l0_7.length : Int) == (x6z_10.length : Int)) = true := beq_iff_eq.mpr c113
                         have c113b1 : ((l0_7.length : Int) != (x6z_10.length : Int)) = false := bne_eq_false_iff_eq.mpr c113
                         have c113b2 : (l0_7.length == x6z_10.length) = true := by first | simpa using c113 | (simp at c113 ⊢; omega)
                         clear c113
                         have H' := am_ H
                         clear H
                         have hnb114 := NB280_281.out
                         have hnc114 := NB281_280.out
                         obtain ⟨hcz115_0, hcz115_1, hcz115_2, hcz115_3, hcz115_4, hcz115_5, hcz115_6, hcz115_7, hcz115_8, -, hfz115_1, hfz115_2, hfz115_3, hfz115_4, hfz115_5, hfz115_6, hfz115_7, hfz115_8⟩ := cn BK280
                         obtain ⟨hcz116_0, hcz116_1, hcz116_2, hcz116_3, hcz116_4, hcz116_5, hcz116_6, hcz116_7, hcz116_8, -, hfz116_1, hfz116_2, hfz116_3, hfz116_4, hfz116_5, hfz116_6, hfz116_7, hfz116_8⟩ := cn BK281
                         go_wp2
                         go_meet
                         case rel => exact ⟨_, (((l0_8.length : Int) == (x7z_10.length : Int))), aa_0, H', ⟨by have := HJ10.out; first | omega | exact Nat.le_refl _⟩, ⟨aa_7⟩, ⟨aa_1⟩⟩
                        ·rw [if_neg c113] at H
                         have c113b0 : ((l0_7.length : Int) == (x6z_10.length : Int)) = false := beq_eq_false_iff_ne.mpr c113
                         have c113b1 : ((l0_7.length : Int) != (x6z_10.length : Int)) = true := bne_iff_ne.mpr c113
                         have c113b2 : (l0_7.length == x6z_10.length) = false := by first | simpa using c113 | (simp at c113 ⊢; omega)
                         have H' := am_ H
                         clear H
                         have hnb117 := NB280_281.out
                         have hnc117 := NB281_280.out
                         obtain ⟨hcz118_0, hcz118_1, hcz118_2, hcz118_3, hcz118_4, hcz118_5, hcz118_6, hcz118_7, hcz118_8, -, hfz118_1, hfz118_2, hfz118_3, hfz118_4, hfz118_5, hfz118_6, hfz118_7, hfz118_8⟩ := cn BK280
                         obtain ⟨hcz119_0, hcz119_1, hcz119_2, hcz119_3, hcz119_4, hcz119_5, hcz119_6, hcz119_7, hcz119_8, -, hfz119_1, hfz119_2, hfz119_3, hfz119_4, hfz119_5, hfz119_6, hfz119_7, hfz119_8⟩ := cn BK281
                         go_wp2
                         go_meet
                         case rel => exact ⟨_, (false), aa_0, H', ⟨by have := HJ10.out; first | omega | exact Nat.le_refl _⟩, ⟨aa_7⟩, ⟨aa_1⟩⟩
                      ·rw [if_neg c112] at H
                       have c112b0 : ((l0_6.length : Int) == (x5z_10.length : Int)) = false := beq_eq_false_iff_ne.mpr c112
                       have c112b1 : ((l0_6.length : Int) != (x5z_10.length : Int)) = true := bne_iff_ne.mpr c112
                       have c112b2 : (l0_6.length == x5z_10.length) = false := by first | simpa using c112 | (simp at c112 ⊢; omega)
                       have H' := am_ H
                       clear H
                       have hnb120 := NB280_281.out
                       have hnc120 := NB281_280.out
                       obtain ⟨hcz121_0, hcz121_1, hcz121_2, hcz121_3, hcz121_4, hcz121_5, hcz121_6, hcz121_7, hcz121_8, -, hfz121_1, hfz121_2, hfz121_3, hfz121_4, hfz121_5, hfz121_6, hfz121_7, hfz121_8⟩ := cn BK280
                       obtain ⟨hcz122_0, hcz122_1, hcz122_2, hcz122_3, hcz122_4, hcz122_5, hcz122_6, hcz122_7, hcz122_8, -, hfz122_1, hfz122_2, hfz122_3, hfz122_4, hfz122_5, hfz122_6, hfz122_7, hfz122_8⟩ := cn BK281
                       go_wp2
                       go_meet
                       case rel => exact ⟨_, (false), aa_0, H', ⟨by have := HJ10.out; first | omega | exact Nat.le_refl _⟩, ⟨aa_7⟩, ⟨aa_1⟩⟩
                    ·rw [if_neg c111] at H
                     have c111b0 : (a0_5 == x4z_10) = false := beq_eq_false_iff_ne.mpr c111
                     have c111b1 : (a0_5 != x4z_10) = true := bne_iff_ne.mpr c111
                     have H' := am_ H
                     clear H
                     have hnb123 := NB280_281.out
                     have hnc123 := NB281_280.out
                     obtain ⟨hcz124_0, hcz124_1, hcz124_2, hcz124_3, hcz124_4, hcz124_5, hcz124_6, hcz124_7, hcz124_8, -, hfz124_1, hfz124_2, hfz124_3, hfz124_4, hfz124_5, hfz124_6, hfz124_7, hfz124_8⟩ := cn BK280
                     obtain ⟨hcz125_0, hcz125_1, hcz125_2, hcz125_3, hcz125_4, hcz125_5, hcz125_6, hcz125_7, hcz125_8, -, hfz125_1, hfz125_2, hfz125_3, hfz125_4, hfz125_5, hfz125_6, hfz125_7, hfz125_8⟩ := cn BK281
                     go_wp2
                     go_meet
                     case rel => exact ⟨_, (false), aa_0, H', ⟨by have := HJ10.out; first | omega | exact Nat.le_refl _⟩, ⟨aa_7⟩, ⟨aa_1⟩⟩
                  ·rw [if_neg c110] at H
                   have c110b0 : (a0_4 == x3z_10) = false := beq_eq_false_iff_ne.mpr c110
                   have c110b1 : (a0_4 != x3z_10) = true := bne_iff_ne.mpr c110
                   have H' := am_ H
                   clear H
                   have hnb126 := NB280_281.out
                   have hnc126 := NB281_280.out
                   obtain ⟨hcz127_0, hcz127_1, hcz127_2, hcz127_3, hcz127_4, hcz127_5, hcz127_6, hcz127_7, hcz127_8, -, hfz127_1, hfz127_2, hfz127_3, hfz127_4, hfz127_5, hfz127_6, hfz127_7, hfz127_8⟩ := cn BK280
                   obtain ⟨hcz128_0, hcz128_1, hcz128_2, hcz128_3, hcz128_4, hcz128_5, hcz128_6, hcz128_7, hcz128_8, -, hfz128_1, hfz128_2, hfz128_3, hfz128_4, hfz128_5, hfz128_6, hfz128_7, hfz128_8⟩ := cn BK281
                   go_wp2
                   go_meet
                   case rel => exact ⟨_, (false), aa_0, H', ⟨by have := HJ10.out; first | omega | exact Nat.le_refl _⟩, ⟨aa_7⟩, ⟨aa_1⟩⟩
                ·rw [if_neg c109] at H
                 have c109b0 : (a0_3 == x2z_10) = false := beq_eq_false_iff_ne.mpr c109
                 have c109b1 : (a0_3 != x2z_10) = true := bne_iff_ne.mpr c109
                 have H' := am_ H
                 clear H
                 have hnb129 := NB280_281.out
                 have hnc129 := NB281_280.out
                 obtain ⟨hcz130_0, hcz130_1, hcz130_2, hcz130_3, hcz130_4, hcz130_5, hcz130_6, hcz130_7, hcz130_8, -, hfz130_1, hfz130_2, hfz130_3, hfz130_4, hfz130_5, hfz130_6, hfz130_7, hfz130_8⟩ := cn BK280
                 obtain ⟨hcz131_0, hcz131_1, hcz131_2, hcz131_3, hcz131_4, hcz131_5, hcz131_6, hcz131_7, hcz131_8, -, hfz131_1, hfz131_2, hfz131_3, hfz131_4, hfz131_5, hfz131_6, hfz131_7, hfz131_8⟩ := cn BK281
                 go_wp2
                 go_meet
                 case rel => exact ⟨_, (false), aa_0, H', ⟨by have := HJ10.out; first | omega | exact Nat.le_refl _⟩, ⟨aa_7⟩, ⟨aa_1⟩⟩
              ·rw [if_neg c108] at H
               have c108b0 : (a0_2 == x1z_10) = false := beq_eq_false_iff_ne.mpr c108
               have c108b1 : (a0_2 != x1z_10) = true := bne_iff_ne.mpr c108
               have H' := am_ H
               clear H
               have hnb132 := NB280_281.out
               have hnc132 := NB281_280.out
               obtain ⟨hcz133_0, hcz133_1, hcz133_2, hcz133_3, hcz133_4, hcz133_5, hcz133_6, hcz133_7, hcz133_8, -, hfz133_1, hfz133_2, hfz133_3, hfz133_4, hfz133_5, hfz133_6, hfz133_7, hfz133_8⟩ := cn BK280
               obtain ⟨hcz134_0, hcz134_1, hcz134_2, hcz134_3, hcz134_4, hcz134_5, hcz134_6, hcz134_7, hcz134_8, -, hfz134_1, hfz134_2, hfz134_3, hfz134_4, hfz134_5, hfz134_6, hfz134_7, hfz134_8⟩ := cn BK281
               go_wp2
               go_meet
               case rel => exact ⟨_, (false), aa_0, H', ⟨by have := HJ10.out; first | omega | exact Nat.le_refl _⟩, ⟨aa_7⟩, ⟨aa_1⟩⟩
            ·rw [if_neg c107] at H
             have c107b0 : (a0_1 == x0z_10) = false := beq_eq_false_iff_ne.mpr c107
             have c107b1 : (a0_1 != x0z_10) = true := bne_iff_ne.mpr c107
             have H' := am_ H
             clear H
             have hnb135 := NB280_281.out
             have hnc135 := NB281_280.out
             obtain ⟨hcz136_0, hcz136_1, hcz136_2, hcz136_3, hcz136_4, hcz136_5, hcz136_6, hcz136_7, hcz136_8, -, hfz136_1, hfz136_2, hfz136_3, hfz136_4, hfz136_5, hfz136_6, hfz136_7, hfz136_8⟩ := cn BK280
             obtain ⟨hcz137_0, hcz137_1, hcz137_2, hcz137_3, hcz137_4, hcz137_5, hcz137_6, hcz137_7, hcz137_8, -, hfz137_1, hfz137_2, hfz137_3, hfz137_4, hfz137_5, hfz137_6, hfz137_7, hfz137_8⟩ := cn BK281
             go_wp2
             go_meet
             case rel => exact ⟨_, (false), aa_0, H', ⟨by have := HJ10.out; first | omega | exact Nat.le_refl _⟩, ⟨aa_7⟩, ⟨aa_1⟩⟩
          ·exact absurd rfl c106
        ·replace c105 := Bool.eq_false_iff.mpr c105
         subst c105
         have H1 : (j11 kj10 false) = some r := by rw [if_neg (show ¬ (false = true) by decide)] at H; exact H
         clear H
         have H := H1
         clear H1
         have H' := am_ H
         clear H
         go_wp2
         go_meet
         case rel => exact ⟨_, (false), aa_0, H', ⟨by have := HJ10.out; first | omega | exact Nat.le_refl _⟩, ⟨aa_7⟩, ⟨aa_1⟩⟩
      case rest =>
       as_aux_lemma =>
        clear HC104
        obtain ⟨kq, x4_103, rfl, HA, HJ103, BK280, HB⟩ := hcut
        cases kq with
        | zero => exact absurd HA.out (by simp [j11])
        | succ kj103 =>
         have H := HA.out
         clear HA
         simp only [j11] at H
         obtain rfl := Option.some.inj H
         go_wp2
         go_ret
         exact ⟨by first | rfl | (simp [errW_none, errW_some] <;> rfl) | (simp [*, errW_none, errW_some] <;> rfl), by repeat (first | (with_reducible first | exact HB.out | apply below_alloc | apply pw_below_drewN | apply below_drew1 | refine below_set ?_ GE280.out) | exact HB.out)⟩

end Go.Proofs.Ytlahigmoljflkaa.PAll
