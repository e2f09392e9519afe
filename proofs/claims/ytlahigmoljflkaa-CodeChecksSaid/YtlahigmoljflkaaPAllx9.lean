/- Printed by a copy of the printer that was turned for this claim: functions as plain Lean functions, with proofs that their calls come to these; or words that such proofs use. -/
import Derived.Test.YtlahigmoljflkaaPAllx0
import Derived.Test.YtlahigmoljflkaaPAllx3
import Derived.Test.YtlahigmoljflkaaPAllx7
import Derived.Test.YtlahigmoljflkaaPAllx8
namespace Go.Proofs.Ytlahigmoljflkaa.PAll
open Go.RowKit Go.Proofs.YtlahigmoljflkaaW.PrintWords Go.Proofs.YtlahigmoljflkaaW.PrintLast Go.Proofs.YtlahigmoljflkaaW.PrintMore
attribute [local go_sem] max2_int min2_int max_two min_two max_three min_three max_four min_four   -- for this text's walks alone
set_option linter.unusedVariables false
set_option linter.unusedSimpArgs false

theorem code_all.q.cn {w : World} {g : Nat} {t : TypeId} {v0 v1 v2 v3 v4 v5 v6 v7 v8 : Value} (h : Aside0 (w.heap[g]? = some (.cells #[v0, v1, v2, v3, v4, v5, v6, v7, v8] t (0, 0)))) : w.cell? ⟨g, 0, none⟩ = some v0 ∧ w.cell? ⟨g, 1, none⟩ = some v1 ∧ w.cell? ⟨g, 2, none⟩ = some v2 ∧ w.cell? ⟨g, 3, none⟩ = some v3 ∧ w.cell? ⟨g, 4, none⟩ = some v4 ∧ w.cell? ⟨g, 5, none⟩ = some v5 ∧ w.cell? ⟨g, 6, none⟩ = some v6 ∧ w.cell? ⟨g, 7, none⟩ = some v7 ∧ w.cell? ⟨g, 8, none⟩ = some v8 ∧ w.frozen? ⟨g, 0, none⟩ = false ∧ w.frozen? ⟨g, 1, none⟩ = false ∧ w.frozen? ⟨g, 2, none⟩ = false ∧ w.frozen? ⟨g, 3, none⟩ = false ∧ w.frozen? ⟨g, 4, none⟩ = false ∧ w.frozen? ⟨g, 5, none⟩ = false ∧ w.frozen? ⟨g, 6, none⟩ = false ∧ w.frozen? ⟨g, 7, none⟩ = false ∧ w.frozen? ⟨g, 8, none⟩ = false := ⟨(blk_cell h.out 0).trans rfl, (blk_cell h.out 1).trans rfl, (blk_cell h.out 2).trans rfl, (blk_cell h.out 3).trans rfl, (blk_cell h.out 4).trans rfl, (blk_cell h.out 5).trans rfl, (blk_cell h.out 6).trans rfl, (blk_cell h.out 7).trans rfl, (blk_cell h.out 8).trans rfl, blk_frozen h.out 0, blk_frozen h.out 1, blk_frozen h.out 2, blk_frozen h.out 3, blk_frozen h.out 4, blk_frozen h.out 5, blk_frozen h.out 6, blk_frozen h.out 7, blk_frozen h.out 8⟩
abbrev code_all.q.t : Bool := true
abbrev code_all.q.f_ : Bool := false
def code_all.q.bb0_ : Array Bool := #[t, t, t, t, t, t, t, t]
def code_all.q.bb1_ : Array Bool := #[t, t, t, t, t, t, t, f_]
def code_all.q.bb2_ : Array Bool := #[t, t, t, t, t, t, f_, f_]
def code_all.q.bb3_ : Array Bool := #[t, t, t, t, t, f_, f_, f_]
def code_all.q.bb4_ : Array Bool := #[t, t, t, f_, t, f_, f_, f_]
def code_all.q.bb5_ : Array Bool := #[t, t, t, f_, f_, f_, f_, f_]
def code_all.q.bb6_ : Array Bool := #[t, f_, t, f_, f_, f_, f_, f_]
def code_all.q.bb7_ : Array Bool := #[t, f_, f_, f_, f_, f_, f_, f_]
def code_all.q.bb8_ : Array Bool := #[f_, f_, f_, f_, f_, f_, f_, f_]
theorem code_all.q.bc {w : World} {g : Nat} {cs : Array Value} {t : TypeId} (h : Aside0 (w.heap[g]? = some (.cells cs t (0, 0)))) (i : Nat) {v : Value} (e : cs[i]? = some v := by rfl) : w.cell? ⟨g, i, none⟩ = some v := (blk_cell h.out i).trans e
theorem code_all.q.bbelow {W0 w w1 : World} {g : Nat} {o : Obj} (_b : Aside0 (W0.heap[g]? = some o)) (h : w.heap[g]? = some o) (hb : Below w.heap.size w w1) : w1.heap[g]? = some o := blk_below h hb
theorem code_all.q.e1 {α : Type _} (xs : List α) (i : Nat) (a : α) : xs.toArray.setIfInBounds i a = (xs.set i a).toArray := by simp
theorem code_all.q.e2 {α : Type _} (x a : α) (xs : List α) : (x :: xs).set 0 a = a :: xs := rfl
theorem code_all.q.e3 {α : Type _} (x a : α) (xs : List α) (n : Nat) : (x :: xs).set (n + 1) a = x :: xs.set n a := rfl
def code_all.q.T9 : Bool × List (List Nat × List Nat) := (true, [([], []), ([0], [0]), ([], []), ([2], [2]), ([0, 1], []), ([4, 1, 0, 1], [1, 4]), ([0, 1, 2, 3, 4, 5], []), ([6, 3, 5, 0, 1, 2, 3, 4, 5], [3, 6])])
def code_all.q.B9 : List Nat := [0, 1, 0, 4, 3, 19, 63, 127]
theorem code_all.q.tab9 : rtab .any (opsOf Try.f41 9) = code_all.q.T9 := by kernel_rfl
theorem code_all.q.bits9 : waitsOk code_all.q.T9.2 code_all.q.B9 = true := by kernel_rfl
def code_all.q.T18 : Bool × List (List Nat × List Nat) := (true, [([], []), ([0], [0]), ([], []), ([2], [2]), ([0, 1], []), ([4, 1, 0, 1], [1, 4]), ([0, 1, 2, 3, 4, 5], []), ([6, 3, 5, 0, 1, 2, 3, 4, 5], [3, 6])])
def code_all.q.B18 : List Nat := [0, 1, 0, 4, 3, 19, 63, 127]
theorem code_all.q.tab18 : rtab .any (opsOf Try.f41 18) = code_all.q.T18 := by kernel_rfl
theorem code_all.q.bits18 : waitsOk code_all.q.T18.2 code_all.q.B18 = true := by kernel_rfl
def code_all.q.T21 : Bool × List (List Nat × List Nat) := (true, [([], []), ([0], [0]), ([], []), ([2], [2]), ([0, 1], []), ([4, 1, 0, 1], [1, 4]), ([0, 1, 2, 3, 4, 5], []), ([6, 3, 5, 0, 1, 2, 3, 4, 5], [3, 6])])
def code_all.q.B21 : List Nat := [0, 1, 0, 4, 3, 19, 63, 127]
theorem code_all.q.tab21 : rtab .any (opsOf Try.f41 21) = code_all.q.T21 := by kernel_rfl
theorem code_all.q.bits21 : waitsOk code_all.q.T21.2 code_all.q.B21 = true := by kernel_rfl
theorem code_all.q.aa_0 {p : Prop} (h : p := by repeat (first | (with_reducible first | exact HB.out | apply below_alloc | apply pw_below_drewN | apply below_drew1 | refine below_set ?_ GE262.out | refine below_set ?_ GE263.out) | exact HB.out)) : p := h
theorem code_all.q.aa_1 {p : Prop} (h : p := by first | rfl | (simp; done) | (simp [*]; done)) : p := h
theorem code_all.q.aa_2 {p : Prop} (h : p := by (try simp only [List.map_toArray, List.map_cons, List.map_nil]); first | done | rfl | (simp only [List.length_drop, List.length_take]; rfl)) : p := h
theorem code_all.q.aa_3 {p : Prop} (h : p := by (with_reducible repeat (first | refine blk_drewN ?_ _ | refine blk_drew ?_ | refine blk_alloc ?_ _)); exact BK262.out) : p := h
theorem code_all.q.aa_4 {p : Prop} (h : p := by (with_reducible repeat (first | refine blk_drewN ?_ _ | refine blk_drew ?_ | refine blk_alloc ?_ _)); exact BK263.out) : p := h
theorem code_all.q.am_ {p : Prop} (h : p) : Aside0 p := Aside0.mk h
theorem code_all.q.bm_ {α β : Type _} {o : Option α} {f : α → Option β} {b : β} (h : o.bind f = some b) : ∃ a, o = some a ∧ f a = some b := Option.bind_eq_some_iff.mp h
set_option maxHeartbeats 100000000 in
set_option maxRecDepth 100000 in
theorem code_all.q.step (k : Nat) (ih : ∀ kq_, kq_ < k → ∀ (A0 : Option Addr) (c0 : Nat) (l0 : List (S45)) (a1 : Int) (r : Bool) (w : World) (hr0 : Kd.C k45 w A0 l0.length l0) (hc0 : l0.length ≤ c0) (h : code_all.f kq_ l0 a1 = some r),
  Calls Try.prog 28 #[.slice A0 l0.length c0, .int .i64 a1] w fun e w' => e = .returned (.bool r) ∧ Below w.heap.size w w') : ∀ (a0_0 : Int) (a0_1 : Int) (a0_2 : Int) (a0_3 : Int) (a0_4 : Int) (a0_5 : Int) (A0_6 : Option Addr) (c0_6 : Nat) (l0_6 : List Int) (A0_7 : Option Addr) (c0_7 : Nat) (l0_7 : List (S45)) (A0_8 : Option Addr) (c0_8 : Nat) (l0_8 : List (S45)) (a1 : Int) (r : Bool) (w : World) (hr0_6 : Kd.C (Kd.int .i64) w A0_6 l0_6.length l0_6) (hc0_6 : l0_6.length ≤ c0_6) (hr0_7 : Kd.C k45 w A0_7 l0_7.length l0_7) (hc0_7 : l0_7.length ≤ c0_7) (hr0_8 : Kd.C k45 w A0_8 l0_8.length l0_8) (hc0_8 : l0_8.length ≤ c0_8) (h : code_all.q.f k a0_0 a0_1 a0_2 a0_3 a0_4 a0_5 l0_6 l0_7 l0_8 a1 = some r),
  Calls Try.prog 41 #[.agg #[.int .i64 a0_0, .int .i64 a0_1, .int .i64 a0_2, .int .i64 a0_3, .int .i64 a0_4, .int .i64 a0_5, .slice A0_6 l0_6.length c0_6, .slice A0_7 l0_7.length c0_7, .slice A0_8 l0_8.length c0_8], .int .i64 a1] w fun e w' => e = .returned (.bool r) ∧ Below w.heap.size w w' := by
 intro a0_0 a0_1 a0_2 a0_3 a0_4 a0_5 A0_6 c0_6 l0_6 A0_7 c0_7 l0_7 A0_8 c0_8 l0_8 a1 r w hr0_6 hc0_6 hr0_7 hc0_7 hr0_8 hc0_8 h
 cases k with
 | zero => exact absurd h (by simp [code_all.q.f])
 | succ k =>
 simp only [code_all.q.f] at h
 have hu45 := Try.underlying45
 have HR0_6 := am_ hr0_6
 have HC0_6 := am_ hc0_6
 clear hr0_6 hc0_6
 have HR0_7 := am_ hr0_7
 have HC0_7 := am_ hc0_7
 clear hr0_7 hc0_7
 have HR0_8 := am_ hr0_8
 have HC0_8 := am_ hc0_8
 clear hr0_8 hc0_8
 have HB := am_ (Below.refl w.heap.size w)
 have H : ((code_shape.f k a0_0).bind fun t264 => (if t264 = 1 then (j0 k a1 true t264 (t264 == 1) a0_0 a0_1 a0_2 a0_3 a0_4 a0_5 l0_6 l0_7 l0_8 a0_0 0 0 0 0 0) else (j0 k a1 true t264 (t264 == 8) a0_0 a0_1 a0_2 a0_3 a0_4 a0_5 l0_6 l0_7 l0_8 a0_0 0 0 0 0 0))) = some r := h
 clear h
 replace H := bm_ H
 obtain ⟨t264, A30, H⟩ := H
 replace H : (if t264 = 1 then (j0 k a1 true t264 (t264 == 1) a0_0 a0_1 a0_2 a0_3 a0_4 a0_5 l0_6 l0_7 l0_8 a0_0 0 0 0 0 0) else (j0 k a1 true t264 (t264 == 8) a0_0 a0_1 a0_2 a0_3 a0_4 a0_5 l0_6 l0_7 l0_8 a0_0 0 0 0 0 0)) = some r := H
 have A3 := am_ A30
 clear A30
 have HC4 := am_ H
 clear H
 go_enter Try.func41, Try.ntmps41
 go_upto_block 0 with (first | ((with_reducible refine gate_dst (N := 2) rfl ?_); (try (refine gate_guard (by rfl) ?_; dsimp only)); refine box_event ?hg (N := 2) ?hd (cs := #[.int .i64 a0_0, .int .i64 a0_1, .int .i64 a0_2, .int .i64 a0_3, .int .i64 a0_4, .int .i64 a0_5, .slice A0_6 l0_6.length c0_6, .slice A0_7 l0_7.length c0_7, .slice A0_8 l0_8.length c0_8]) (t := 45) ?hr ?_; (case hd => rfl); (case hg => rfl); (case hr => first | (go_simp; done) | (go_simp; rfl)); intro gb262 hg w5 hbox hb; have n0_ := am_ (below_step (by repeat (first | (with_reducible first | exact HB.out | apply below_alloc | apply pw_below_drewN | apply below_drew1) | exact HB.out)) hb); have n1_ := am_ (hbox); have n2_ := am_ ((by rw [hg]; exact (below_size (by repeat (first | (with_reducible first | exact HB.out | apply below_alloc | apply pw_below_drewN | apply below_drew1) | exact HB.out))) : w.heap.size ≤ gb262)); have n3_ := am_ ((by rw [hg]; exact (below_size (by repeat (first | (with_reducible first | exact HB.out | apply below_alloc | apply pw_below_drewN | apply below_drew1) | exact HB.out))) : w.heap.size ≤ gb262)); clear HB; have HB := n0_; have BK262 := n1_; have GW262 := n2_; have GE262 := n3_; clear n0_ n1_ n2_ n3_; clear hb hbox hg; have hcz6_0 : w5.cell? ⟨gb262, 0, none⟩ = some (.int .i64 a0_0) := (bc BK262 0); have hcz6_1 : w5.cell? ⟨gb262, 1, none⟩ = some (.int .i64 a0_1) := (bc BK262 1); have hcz6_2 : w5.cell? ⟨gb262, 2, none⟩ = some (.int .i64 a0_2) := (bc BK262 2); have hcz6_3 : w5.cell? ⟨gb262, 3, none⟩ = some (.int .i64 a0_3) := (bc BK262 3); have hcz6_4 : w5.cell? ⟨gb262, 4, none⟩ = some (.int .i64 a0_4) := (bc BK262 4); have hcz6_5 : w5.cell? ⟨gb262, 5, none⟩ = some (.int .i64 a0_5) := (bc BK262 5); have hcz6_6 : w5.cell? ⟨gb262, 6, none⟩ = some (.slice A0_6 l0_6.length c0_6) := (bc BK262 6); have hcz6_7 : w5.cell? ⟨gb262, 7, none⟩ = some (.slice A0_7 l0_7.length c0_7) := (bc BK262 7); have hcz6_8 : w5.cell? ⟨gb262, 8, none⟩ = some (.slice A0_8 l0_8.length c0_8) := (bc BK262 8); have hfz6_1 := blk_frozen BK262.out 1; have hfz6_2 := blk_frozen BK262.out 2; have hfz6_3 := blk_frozen BK262.out 3; have hfz6_4 := blk_frozen BK262.out 4; have hfz6_5 := blk_frozen BK262.out 5; have hfz6_6 := blk_frozen BK262.out 6; have hfz6_7 := blk_frozen BK262.out 7; have hfz6_8 := blk_frozen BK262.out 8) | ((with_reducible refine gate_dst (N := 5) rfl ?_); (try (refine gate_guard (by rfl) ?_; dsimp only)); refine box_event ?hg (N := 5) ?hd (cs := #[.int .i64 0, .int .i64 0, .int .i64 0, .int .i64 0, .int .i64 0, .int .i64 0, .slice none 0 0, .slice none 0 0, .slice none 0 0]) (t := 45) ?hr ?_; (case hd => rfl); (case hg => rfl); (case hr => first | (go_simp; done) | (go_simp; rfl)); intro gb263 hg w7 hbox hb) | ((with_reducible refine gate_store (t := 45) (p := 5) rfl ?_); refine Go.Proofs.YtlahigmoljflkaaO.store_whole ?hg ?hn (ty := 45) (x := ?xs_w8) (y := ?ys_w8) ?ho (g := gb263) ?hx [.int .i64 a0_0, .int .i64 0, .int .i64 0, .int .i64 0, .int .i64 0, .int .i64 0, .slice none 0 0, .slice none 0 0, .slice none 0 0] ?hy hbox (by kernel_rfl) rfl rfl ?_; (case ho => rfl); (case hg => rfl); (case hn => rfl); (case hx => rfl); (case hy => rfl); intro w8 hb_ hO_ hB_; replace hb := hB_ _ _ hb (Nat.le_of_eq hg.symm); replace hbox := hb_; clear hb_ hO_ hB_; have n0_ := am_ (bbelow BK262 (by (with_reducible repeat (first | refine blk_drewN ?_ _ | refine blk_drew ?_ | refine blk_alloc ?_ _)); exact BK262.out) hb); have n1_ := am_ (below_step (by repeat (first | (with_reducible first | exact HB.out | apply below_alloc | apply pw_below_drewN | apply below_drew1 | refine below_set ?_ GE262.out) | exact HB.out)) hb); have n2_ := am_ (hbox); have n3_ := am_ ((by rw [hg]; exact (below_size (by repeat (first | (with_reducible first | exact HB.out | apply below_alloc | apply pw_below_drewN | apply below_drew1 | refine below_set ?_ GE262.out) | exact HB.out))) : w.heap.size ≤ gb263)); have n4_ := am_ ((by rw [hg]; exact (below_size (by repeat (first | (with_reducible first | exact HB.out | apply below_alloc | apply pw_below_drewN | apply below_drew1 | refine below_set ?_ GE262.out) | exact HB.out))) : w.heap.size ≤ gb263)); have n5_ := am_ ((by rw [hg]; exact Nat.ne_of_lt (blk_lt (g := gb262) (o := .cells #[.int .i64 a0_0, .int .i64 a0_1, .int .i64 a0_2, .int .i64 a0_3, .int .i64 a0_4, .int .i64 a0_5, .slice A0_6 l0_6.length c0_6, .slice A0_7 l0_7.length c0_7, .slice A0_8 l0_8.length c0_8] 45 (0, 0)) (by (with_reducible repeat (first | refine blk_drewN ?_ _ | refine blk_drew ?_ | refine blk_alloc ?_ _)); exact BK262.out)) : gb262 ≠ gb263)); have n6_ := am_ ((by rw [hg]; exact Nat.ne_of_gt (blk_lt (g := gb262) (o := .cells #[.int .i64 a0_0, .int .i64 a0_1, .int .i64 a0_2, .int .i64 a0_3, .int .i64 a0_4, .int .i64 a0_5, .slice A0_6 l0_6.length c0_6, .slice A0_7 l0_7.length c0_7, .slice A0_8 l0_8.length c0_8] 45 (0, 0)) (by (with_reducible repeat (first | refine blk_drewN ?_ _ | refine blk_drew ?_ | refine blk_alloc ?_ _)); exact BK262.out)) : gb263 ≠ gb262)); clear BK262; clear HB; have BK262 := n0_; have HB := n1_; have BK263 := n2_; have GW263 := n3_; have GE263 := n4_; have NB262_263 := n5_; have NB263_262 := n6_; clear n0_ n1_ n2_ n3_ n4_ n5_ n6_; clear hb hbox hg; have hnb9 := NB262_263.out; have hnc9 := NB263_262.out; have hcz10_0 : w8.cell? ⟨gb262, 0, none⟩ = some (.int .i64 a0_0) := (bc BK262 0); have hcz10_1 : w8.cell? ⟨gb262, 1, none⟩ = some (.int .i64 a0_1) := (bc BK262 1); have hcz10_2 : w8.cell? ⟨gb262, 2, none⟩ = some (.int .i64 a0_2) := (bc BK262 2); have hcz10_3 : w8.cell? ⟨gb262, 3, none⟩ = some (.int .i64 a0_3) := (bc BK262 3); have hcz10_4 : w8.cell? ⟨gb262, 4, none⟩ = some (.int .i64 a0_4) := (bc BK262 4); have hcz10_5 : w8.cell? ⟨gb262, 5, none⟩ = some (.int .i64 a0_5) := (bc BK262 5); have hcz10_6 : w8.cell? ⟨gb262, 6, none⟩ = some (.slice A0_6 l0_6.length c0_6) := (bc BK262 6); have hcz10_7 : w8.cell? ⟨gb262, 7, none⟩ = some (.slice A0_7 l0_7.length c0_7) := (bc BK262 7); have hcz10_8 : w8.cell? ⟨gb262, 8, none⟩ = some (.slice A0_8 l0_8.length c0_8) := (bc BK262 8); have hfz10_1 := blk_frozen BK262.out 1; have hfz10_2 := blk_frozen BK262.out 2; have hfz10_3 := blk_frozen BK262.out 3; have hfz10_4 := blk_frozen BK262.out 4; have hfz10_5 := blk_frozen BK262.out 5; have hfz10_6 := blk_frozen BK262.out 6; have hfz10_7 := blk_frozen BK262.out 7; have hfz10_8 := blk_frozen BK262.out 8) | ((with_reducible refine gate_callee (f := 49) rfl ?_); refine goesL_ (some 12) rfl rfl Try.func49 (by kernel_rfl) rfl #[.int .i64 a0_0] rfl aa_2 ?_; (with_reducible refine (code_shape.calls k a0_0 t264 _ A3.out).mono ?_); rintro e w' ⟨rfl, ⟨nd, rfl⟩⟩; refine ⟨_, rfl, ?_⟩))
 (try simp only [Act.put, e1, e2, e3])
 go_cut [6] (fun v6 wc => ∃ (kq : Nat) (x6_3 : Bool) (x0z_3 : Int) (x1z_3 : Int) (x2z_3 : Int) (x3z_3 : Int) (x4z_3 : Int) (x5z_3 : List Int) (x6z_3 : List (S45)) (x7z_3 : List (S45)) (u5z : Value) (u6z : Value) (u7z : Value), v6 = .bool x6_3 ∧ Aside0 (j4 kq x6_3 a0_0 a0_1 a0_2 a0_3 a0_4 a0_5 l0_6 l0_7 l0_8 a0_0 x0z_3 x1z_3 x2z_3 x3z_3 x4z_3 x5z_3 x6z_3 x7z_3 = some r) ∧ Aside0 (kq ≤ k) ∧ Aside0 (∃ (Aq_ : Option Addr) (cq_ : Nat), u5z = .slice Aq_ x5z_3.length cq_) ∧ Aside0 (∃ (Aq_ : Option Addr) (cq_ : Nat), u6z = .slice Aq_ x6z_3.length cq_) ∧ Aside0 (∃ (Aq_ : Option Addr) (cq_ : Nat), u7z = .slice Aq_ x7z_3.length cq_) ∧ Aside0 (wc.heap[gb262]? = some (.cells #[.int .i64 a0_0, .int .i64 a0_1, .int .i64 a0_2, .int .i64 a0_3, .int .i64 a0_4, .int .i64 a0_5, (.slice A0_6 l0_6.length c0_6), (.slice A0_7 l0_7.length c0_7), (.slice A0_8 l0_8.length c0_8)] 45 (0, 0))) ∧ Aside0 (wc.heap[gb263]? = some (.cells #[.int .i64 a0_0, .int .i64 x0z_3, .int .i64 x1z_3, .int .i64 x2z_3, .int .i64 x3z_3, .int .i64 x4z_3, u5z, u6z, u7z] 45 (0, 0))) ∧ Aside0 (Below w.heap.size w wc))
 case first =>
  as_aux_lemma =>
   have H := HC4.out
   clear HC4
   have HC11 := am_ H
   clear H
   go_upto_if 13 with (fail)
   go_cut [13] (fun v13 wc => ∃ (kq : Nat) (x13_10 : Bool), v13 = .bool x13_10 ∧ Aside0 (j0 kq a1 true t264 x13_10 a0_0 a0_1 a0_2 a0_3 a0_4 a0_5 l0_6 l0_7 l0_8 a0_0 0 0 0 0 0 = some r) ∧ Aside0 (kq ≤ k) ∧ Aside0 (wc.heap[gb262]? = some (.cells #[.int .i64 a0_0, .int .i64 a0_1, .int .i64 a0_2, .int .i64 a0_3, .int .i64 a0_4, .int .i64 a0_5, (.slice A0_6 l0_6.length c0_6), (.slice A0_7 l0_7.length c0_7), (.slice A0_8 l0_8.length c0_8)] 45 (0, 0))) ∧ Aside0 (wc.heap[gb263]? = some (.cells #[.int .i64 a0_0, .int .i64 0, .int .i64 0, .int .i64 0, .int .i64 0, .int .i64 0, (.slice none 0 0), (.slice none 0 0), (.slice none 0 0)] 45 (0, 0))) ∧ Aside0 (Below w.heap.size w wc))
   case first =>
    as_aux_lemma =>
     have H := HC11.out
     clear HC11
     by_cases c12 : t264 = 1
     ·rw [if_pos c12] at H
      have c12b0 : (t264 == 1) = true := beq_iff_eq.mpr c12
      have c12b1 : (t264 != 1) = false := bne_eq_false_iff_eq.mpr c12
      clear c12
      (first | rw [c12b0] | (simp only [i64_w, i32_w]; rw [c12b0]) | skip)
      have H' := am_ H
      clear H
      go_wp2
      go_meet
      case rel => exact ⟨_, ((t264 == 1)), aa_1, H', ⟨by first | omega | exact Nat.le_refl _⟩, ⟨aa_3⟩, ⟨aa_4⟩, ⟨aa_0⟩⟩
     ·rw [if_neg c12] at H
      have c12b0 : (t264 == 1) = false := beq_eq_false_iff_ne.mpr c12
      have c12b1 : (t264 != 1) = true := bne_iff_ne.mpr c12
      (first | rw [c12b0] | (simp only [i64_w, i32_w]; rw [c12b0]) | skip)
      have H' := am_ H
      clear H
      go_wp2
      go_meet
      case rel => exact ⟨_, ((t264 == 8)), aa_1, H', ⟨by first | omega | exact Nat.le_refl _⟩, ⟨aa_3⟩, ⟨aa_4⟩, ⟨aa_0⟩⟩
   case rest =>
    as_aux_lemma =>
     clear HC11
     try clear hcz10_0
     try clear hcz10_1
     try clear hcz10_2
     try clear hcz10_3
     try clear hcz10_4
     try clear hcz10_5
     try clear hcz10_6
     try clear hcz10_7
     try clear hcz10_8
     try clear hcz6_0
     try clear hcz6_1
     try clear hcz6_2
     try clear hcz6_3
     try clear hcz6_4
     try clear hcz6_5
     try clear hcz6_6
     try clear hcz6_7
     try clear hcz6_8
     try clear hfz10_1
     try clear hfz10_2
     try clear hfz10_3
     try clear hfz10_4
     try clear hfz10_5
     try clear hfz10_6
     try clear hfz10_7
     try clear hfz10_8
     try clear hfz6_1
     try clear hfz6_2
     try clear hfz6_3
     try clear hfz6_4
     try clear hfz6_5
     try clear hfz6_6
     try clear hfz6_7
     try clear hfz6_8
     obtain ⟨kq, x13_10, rfl, HA, HJ10, BK262, BK263, HB⟩ := hcut
     cases kq with
     | zero => exact absurd HA.out (by simp [j0])
     | succ kj10 =>
      have H := HA.out
      clear HA
      simp only [j0] at H
      by_cases c13 : x13_10 = true
      ·subst c13
       have H1 : (j4 kj10 true a0_0 a0_1 a0_2 a0_3 a0_4 a0_5 l0_6 l0_7 l0_8 a0_0 0 0 0 0 0 ([] : List Int) ([] : List (S45)) ([] : List (S45))) = some r := by rw [if_pos rfl] at H; exact H
       clear H
       have H := H1
       clear H1
       have H' := am_ H
       clear H
       go_wp2
       go_meet
       case rel => exact ⟨_, (true), (0), (0), (0), (0), (0), (([] : List Int)), (([] : List (S45))), (([] : List (S45))), (.slice none 0 0), (.slice none 0 0), (.slice none 0 0), aa_1, H', ⟨by have := HJ10.out; first | omega | exact Nat.le_refl _⟩, ⟨⟨_, _, rfl⟩⟩, ⟨⟨_, _, rfl⟩⟩, ⟨⟨_, _, rfl⟩⟩, ⟨aa_3⟩, ⟨aa_4⟩, ⟨aa_0⟩⟩
      ·as_aux_lemma =>
        replace c13 := Bool.eq_false_iff.mpr c13
        subst c13
        have H1 : (if t264 = 2 then (j1 kj10 a1 true t264 (t264 == 2) a0_0 a0_1 a0_2 a0_3 a0_4 a0_5 l0_6 l0_7 l0_8 a0_0 0 0 0 0 0) else (j1 kj10 a1 true t264 (t264 == 3) a0_0 a0_1 a0_2 a0_3 a0_4 a0_5 l0_6 l0_7 l0_8 a0_0 0 0 0 0 0)) = some r := by rw [if_neg (show ¬ (false = true) by decide)] at H; exact H
        clear H
        have H := H1
        clear H1
        have HC14 := am_ H
        clear H
        go_upto_if 16 with (fail)
        go_cut [16] (fun v16 wc => ∃ (kq : Nat) (x16_13 : Bool), v16 = .bool x16_13 ∧ Aside0 (j1 kq a1 true t264 x16_13 a0_0 a0_1 a0_2 a0_3 a0_4 a0_5 l0_6 l0_7 l0_8 a0_0 0 0 0 0 0 = some r) ∧ Aside0 (kq ≤ kj10) ∧ Aside0 (wc.heap[gb262]? = some (.cells #[.int .i64 a0_0, .int .i64 a0_1, .int .i64 a0_2, .int .i64 a0_3, .int .i64 a0_4, .int .i64 a0_5, (.slice A0_6 l0_6.length c0_6), (.slice A0_7 l0_7.length c0_7), (.slice A0_8 l0_8.length c0_8)] 45 (0, 0))) ∧ Aside0 (wc.heap[gb263]? = some (.cells #[.int .i64 a0_0, .int .i64 0, .int .i64 0, .int .i64 0, .int .i64 0, .int .i64 0, (.slice none 0 0), (.slice none 0 0), (.slice none 0 0)] 45 (0, 0))) ∧ Aside0 (Below w.heap.size w wc))
        case first =>
         as_aux_lemma =>
          have H := HC14.out
          clear HC14
          by_cases c15 : t264 = 2
          ·rw [if_pos c15] at H
           have c15b0 : (t264 == 2) = true := beq_iff_eq.mpr c15
           have c15b1 : (t264 != 2) = false := bne_eq_false_iff_eq.mpr c15
           clear c15
           (first | rw [c15b0] | (simp only [i64_w, i32_w]; rw [c15b0]) | skip)
           have H' := am_ H
           clear H
           go_wp2
           go_meet
           case rel => exact ⟨_, ((t264 == 2)), aa_1, H', ⟨by have := HJ10.out; first | omega | exact Nat.le_refl _⟩, ⟨aa_3⟩, ⟨aa_4⟩, ⟨aa_0⟩⟩
          ·rw [if_neg c15] at H
           have c15b0 : (t264 == 2) = false := beq_eq_false_iff_ne.mpr c15
           have c15b1 : (t264 != 2) = true := bne_iff_ne.mpr c15
           (first | rw [c15b0] | (simp only [i64_w, i32_w]; rw [c15b0]) | skip)
           have H' := am_ H
           clear H
           go_wp2
           go_meet
           case rel => exact ⟨_, ((t264 == 3)), aa_1, H', ⟨by have := HJ10.out; first | omega | exact Nat.le_refl _⟩, ⟨aa_3⟩, ⟨aa_4⟩, ⟨aa_0⟩⟩
        case rest =>
         as_aux_lemma =>
          clear HC14
          try clear c13
          obtain ⟨kq, x16_13, rfl, HA, HJ13, BK262, BK263, HB⟩ := hcut
          cases kq with
          | zero => exact absurd HA.out (by simp [j1])
          | succ kj13 =>
           have H := HA.out
           clear HA
           simp only [j1] at H
           by_cases c16 : x16_13 = true
           ·as_aux_lemma =>
             subst c16
             have H1 : ((code_typ.f a0_1).bind fun t265 => (if t265 = true then (if a1 < 40 then ((code_all.f kj13 l0_7 (wrap64 (a1 + 1))).bind fun t266 => (j2 kj13 a1 t266 a0_0 a0_1 a0_2 a0_3 a0_4 a0_5 l0_6 l0_7 l0_8 a0_0 a0_1 0 0 0 0 l0_7)) else (j2 kj13 a1 false a0_0 a0_1 a0_2 a0_3 a0_4 a0_5 l0_6 l0_7 l0_8 a0_0 a0_1 0 0 0 0 l0_7)) else (j2 kj13 a1 false a0_0 a0_1 a0_2 a0_3 a0_4 a0_5 l0_6 l0_7 l0_8 a0_0 a0_1 0 0 0 0 l0_7))) = some r := by rw [if_pos rfl] at H; exact H
             clear H
             have H := H1
             clear H1
             have HC17 := am_ H
             clear H
             try go_wp2
             have n0_ := am_ (blk_drew BK262.out)
             have n1_ := am_ (blk_drew BK263.out)
             have n2_ := am_ (below_drew1 HB.out)
             clear BK262
             clear BK263
             clear HB
             have BK262 := n0_
             have BK263 := n1_
             have HB := n2_
             clear n0_ n1_ n2_
             refine start_ (n := 8) (S := fun w' => w'.cell? ⟨gb262, 1, none⟩ = some (.int .i64 a0_1) ∧ w'.cell? ⟨gb262, 7, none⟩ = some (.slice A0_7 l0_7.length c0_7)) (ds := []) bb8_ (by kernel_rfl) rfl rfl ⟨bc BK262 1, bc BK262 7⟩ (fun hHeld => ?_); refine with_tabW code_all.q.tab9 code_all.q.bits9 (fun HT_ HW_ => ?_)
             generalize wc.drew = w18 at BK262 BK263 HB hHeld ⊢
             refine pure_ (i := 0) (N := some 19) (v := ?_) (a' := ?_) bb7_ rfl rfl (any_of HT_.out (by kernel_rfl)) (fun _ _ _ h => h) (Or.inl ⟨by rfl, ?_⟩) ?_ ?_
             rotate_left; · intro w'; go_simp; with_reducible rfl
             rotate_left; · simp only [Act.put, e1, e2, e3, i64_w, i32_w]; rfl
             refine pure_ (i := 2) (N := some 21) (v := ?_) (a' := ?_) bb6_ rfl rfl (any_of HT_.out (by kernel_rfl)) (fun _ _ _ h => h) (Or.inl ⟨by rfl, ?_⟩) ?_ ?_
             rotate_left; · intro w'; go_simp; with_reducible rfl
             rotate_left; · simp only [Act.put, e1, e2, e3, i64_w, i32_w]; rfl
             refine take_ (i := 1) (N := some 20) (v := ?_) (a' := ?_) bb5_ rfl rfl (take_ofW HT_.out HW_.out (by kernel_rfl)) (fun _ _ _ h => h) (Or.inl ⟨by rfl, ?_⟩) hHeld ?_ ?_
             rotate_left; · rintro w' ⟨s0, s1⟩; go_simp; with_reducible rfl
             rotate_left; · simp only [Act.put, e1, e2, e3, i64_w, i32_w]; rfl
             refine pure_ (i := 4) (N := some 23) (v := ?_) (a' := ?_) bb4_ rfl rfl (any_of HT_.out (by kernel_rfl)) (fun _ _ _ h => h) (Or.inl ⟨by rfl, ?_⟩) ?_ ?_
             rotate_left; · intro w'; go_simp; with_reducible rfl
             rotate_left; · simp only [Act.put, e1, e2, e3, i64_w, i32_w]; rfl
             refine take_ (i := 3) (N := some 22) (v := ?_) (a' := ?_) bb3_ rfl rfl (take_ofW HT_.out HW_.out (by kernel_rfl)) (fun _ _ _ h => h) (Or.inl ⟨by rfl, ?_⟩) hHeld ?_ ?_
             rotate_left; · rintro w' ⟨s0, s1⟩; go_simp; with_reducible rfl
             rotate_left; · simp only [Act.put, e1, e2, e3, i64_w, i32_w]; rfl
             refine one_ (i := 5) (N := none) bb2_ rfl rfl (one_of HT_.out (by kernel_rfl)) (by decide) (fun K hK => ?_)
             have hs19 : w18.cell? ⟨gb263, 1, none⟩ = some (.int .i64 0) := bc BK263 1
             have hfs19 := blk_frozen BK263.out 1
             have hns19_0 := NB262_263.out
             have hms19_0 := NB263_262.out
             refine skip_ (w1 := ?_) (by rfl) rfl ?_ ?_
             rotate_left
             ·go_simp
              rfl
             refine hK.out _ _ ⟨((cell_far (p := ⟨gb263, _, none⟩) NB262_263.out _).trans (hHeld.1)), ((cell_far (p := ⟨gb263, _, none⟩) NB262_263.out _).trans (hHeld.2))⟩ (fun hHeld => ?_)
             clear hK K
             refine pure_ (i := 6) (N := some 24) (v := ?_) (a' := ?_) bb1_ rfl rfl (any_of HT_.out (by kernel_rfl)) (fun _ _ _ h => h) (Or.inl ⟨by rfl, ?_⟩) ?_ ?_
             rotate_left; · intro w'; go_simp; with_reducible rfl
             rotate_left; · simp only [Act.put, e1, e2, e3, i64_w, i32_w]; rfl
             refine one_ (i := 7) (N := none) bb0_ rfl rfl (one_of HT_.out (by kernel_rfl)) (by decide) (fun K hK => ?_)
             have hs20 : w18.cell? ⟨gb263, 7, none⟩ = some (.slice none 0 0) := bc BK263 7
             have hfs20 := blk_frozen BK263.out 7
             have hns20_0 := NB262_263.out
             have hms20_0 := NB263_262.out
             refine skip_ (w1 := ?_) (by rfl) rfl ?_ ?_
             rotate_left
             ·go_simp
              rfl
             refine hK.out _ _ ⟨((cell_far (p := ⟨gb263, _, none⟩) NB262_263.out _).trans (hHeld.1)), ((cell_far (p := ⟨gb263, _, none⟩) NB262_263.out _).trans (hHeld.2))⟩ (fun hHeld => ?_)
             clear hK K
             refine done_ (done_of HT_.out (by kernel_rfl)) ?_
             go_upto_region 10 with (fail)
             go_cut [6] (fun v6 wc => ∃ (kq : Nat) (x6_16 : Bool), v6 = .bool x6_16 ∧ Aside0 (j2 kq a1 x6_16 a0_0 a0_1 a0_2 a0_3 a0_4 a0_5 l0_6 l0_7 l0_8 a0_0 a0_1 0 0 0 0 l0_7 = some r) ∧ Aside0 (kq ≤ kj13) ∧ Aside0 (wc.heap[gb262]? = some (.cells #[.int .i64 a0_0, .int .i64 a0_1, .int .i64 a0_2, .int .i64 a0_3, .int .i64 a0_4, .int .i64 a0_5, (.slice A0_6 l0_6.length c0_6), (.slice A0_7 l0_7.length c0_7), (.slice A0_8 l0_8.length c0_8)] 45 (0, 0))) ∧ Aside0 (wc.heap[gb263]? = some (.cells #[.int .i64 a0_0, .int .i64 a0_1, .int .i64 0, .int .i64 0, .int .i64 0, .int .i64 0, (.slice none 0 0), (.slice A0_7 l0_7.length c0_7), (.slice none 0 0)] 45 (0, 0))) ∧ Aside0 (Below w.heap.size w wc))
             case first =>
              as_aux_lemma =>
               have H := HC17.out
               clear HC17
               replace H := bm_ H
               obtain ⟨t265, A210, H⟩ := H
               replace H : (if t265 = true then (if a1 < 40 then ((code_all.f kj13 l0_7 (wrap64 (a1 + 1))).bind fun t266 => (j2 kj13 a1 t266 a0_0 a0_1 a0_2 a0_3 a0_4 a0_5 l0_6 l0_7 l0_8 a0_0 a0_1 0 0 0 0 l0_7)) else (j2 kj13 a1 false a0_0 a0_1 a0_2 a0_3 a0_4 a0_5 l0_6 l0_7 l0_8 a0_0 a0_1 0 0 0 0 l0_7)) else (j2 kj13 a1 false a0_0 a0_1 a0_2 a0_3 a0_4 a0_5 l0_6 l0_7 l0_8 a0_0 a0_1 0 0 0 0 l0_7)) = some r := H
               have A21 := am_ A210
               clear A210
               by_cases c22 : t265 = true
               ·as_aux_lemma =>
                 subst c22
                 have H1 : (if a1 < 40 then ((code_all.f kj13 l0_7 (wrap64 (a1 + 1))).bind fun t266 => (j2 kj13 a1 t266 a0_0 a0_1 a0_2 a0_3 a0_4 a0_5 l0_6 l0_7 l0_8 a0_0 a0_1 0 0 0 0 l0_7)) else (j2 kj13 a1 false a0_0 a0_1 a0_2 a0_3 a0_4 a0_5 l0_6 l0_7 l0_8 a0_0 a0_1 0 0 0 0 l0_7)) = some r := by rw [if_pos rfl] at H; exact H
                 clear H
                 have H := H1
                 clear H1
                 by_cases c23 : a1 < 40
                 ·rw [if_pos c23] at H
                  have c23b0 : decide (a1 < 40) = true := decide_eq_true c23
                  clear c23
                  (first | rw [c23b0] | (simp only [i64_w, i32_w]; rw [c23b0]) | skip)
                  replace H := bm_ H
                  obtain ⟨t266, A240, H⟩ := H
                  replace H : (j2 kj13 a1 t266 a0_0 a0_1 a0_2 a0_3 a0_4 a0_5 l0_6 l0_7 l0_8 a0_0 a0_1 0 0 0 0 l0_7) = some r := H
                  have A24 := am_ A240
                  clear A240
                  have H' := am_ H
                  clear H
                  have hnb25 := NB262_263.out
                  have hnc25 := NB263_262.out
                  obtain ⟨hcz26_0, hcz26_1, hcz26_2, hcz26_3, hcz26_4, hcz26_5, hcz26_6, hcz26_7, hcz26_8, -, hfz26_1, hfz26_2, hfz26_3, hfz26_4, hfz26_5, hfz26_6, hfz26_7, hfz26_8⟩ := cn BK262
                  go_wp2_with (first | ((with_reducible refine gate_callee (f := 50) rfl ?_); refine goesL_ (some 27) rfl rfl Try.func50 (by kernel_rfl) rfl #[.int .i64 a0_1] rfl aa_2 ?_; (with_reducible refine (code_typ.calls a0_1 true _ A21.out).mono ?_); rintro e w' ⟨rfl, ⟨nd, rfl⟩⟩; refine ⟨_, rfl, ?_⟩) | (go_at_call 28; (with_reducible refine (ih kj13 (by have := HJ10.out; have := HJ13.out; omega) _ _ l0_7 (wrap64 (a1 + 1)) t266 _ ?side1 ?side2 A24.out).mono ?_); (case side1 => exact Kd.C_below HR0_7.out aa_0); (case side2 => exact HC0_7.out); rintro e w27 ⟨rfl, hb⟩; have n0_ := am_ (bbelow BK262 (by (with_reducible repeat (first | refine blk_drewN ?_ _ | refine blk_drew ?_ | refine blk_alloc ?_ _)); refine blk_far ?_ NB262_263.out _; (with_reducible repeat (first | refine blk_drewN ?_ _ | refine blk_drew ?_ | refine blk_alloc ?_ _)); refine blk_far ?_ NB262_263.out _; (with_reducible repeat (first | refine blk_drewN ?_ _ | refine blk_drew ?_ | refine blk_alloc ?_ _)); exact BK262.out) hb); have n1_ := am_ (blk_below (g := gb263) (o := .cells #[.int .i64 a0_0, .int .i64 a0_1, .int .i64 0, .int .i64 0, .int .i64 0, .int .i64 0, .slice none 0 0, .slice A0_7 l0_7.length c0_7, .slice none 0 0] 45 (0, 0)) (by (with_reducible repeat (first | refine blk_drewN ?_ _ | refine blk_drew ?_ | refine blk_alloc ?_ _)); refine blk_put (cs := #[.int .i64 a0_0, .int .i64 a0_1, .int .i64 0, .int .i64 0, .int .i64 0, .int .i64 0, .slice none 0 0, .slice none 0 0, .slice none 0 0]) ?_ 7 _ rfl; (with_reducible repeat (first | refine blk_drewN ?_ _ | refine blk_drew ?_ | refine blk_alloc ?_ _)); refine blk_put (cs := #[.int .i64 a0_0, .int .i64 0, .int .i64 0, .int .i64 0, .int .i64 0, .int .i64 0, .slice none 0 0, .slice none 0 0, .slice none 0 0]) ?_ 1 _ rfl; (with_reducible repeat (first | refine blk_drewN ?_ _ | refine blk_drew ?_ | refine blk_alloc ?_ _)); exact BK263.out) hb); have n2_ := am_ (below_step aa_0 hb); clear BK262; clear BK263; clear HB; have BK262 := n0_; have BK263 := n1_; have HB := n2_; clear n0_ n1_ n2_; (try clear hb); (try clear hb2); (try clear hk); (try clear hi)))
                  go_meet
                  case rel => exact ⟨_, (t266), aa_1, H', ⟨by have := HJ10.out; have := HJ13.out; first | omega | exact Nat.le_refl _⟩, ⟨aa_3⟩, ⟨aa_4⟩, ⟨aa_0⟩⟩
                 ·rw [if_neg c23] at H
                  have c23b0 : decide (a1 < 40) = false := decide_eq_false c23
                  clear c23
                  (first | rw [c23b0] | (simp only [i64_w, i32_w]; rw [c23b0]) | skip)
                  have H' := am_ H
                  clear H
                  have hnb28 := NB262_263.out
                  have hnc28 := NB263_262.out
                  obtain ⟨hcz29_0, hcz29_1, hcz29_2, hcz29_3, hcz29_4, hcz29_5, hcz29_6, hcz29_7, hcz29_8, -, hfz29_1, hfz29_2, hfz29_3, hfz29_4, hfz29_5, hfz29_6, hfz29_7, hfz29_8⟩ := cn BK262
                  go_wp2_with (first | ((with_reducible refine gate_callee (f := 50) rfl ?_); refine goesL_ (some 27) rfl rfl Try.func50 (by kernel_rfl) rfl #[.int .i64 a0_1] rfl aa_2 ?_; (with_reducible refine (code_typ.calls a0_1 true _ A21.out).mono ?_); rintro e w' ⟨rfl, ⟨nd, rfl⟩⟩; refine ⟨_, rfl, ?_⟩))
                  go_meet
                  case rel => exact ⟨_, (false), aa_1, H', ⟨by have := HJ10.out; have := HJ13.out; first | omega | exact Nat.le_refl _⟩, ⟨by (with_reducible repeat (first | refine blk_drewN ?_ _ | refine blk_drew ?_ | refine blk_alloc ?_ _)); refine blk_far ?_ NB262_263.out _; (with_reducible repeat (first | refine blk_drewN ?_ _ | refine blk_drew ?_ | refine blk_alloc ?_ _)); refine blk_far ?_ NB262_263.out _; (with_reducible repeat (first | refine blk_drewN ?_ _ | refine blk_drew ?_ | refine blk_alloc ?_ _)); exact BK262.out⟩, ⟨by (with_reducible repeat (first | refine blk_drewN ?_ _ | refine blk_drew ?_ | refine blk_alloc ?_ _)); refine blk_put (cs := #[.int .i64 a0_0, .int .i64 a0_1, .int .i64 0, .int .i64 0, .int .i64 0, .int .i64 0, .slice none 0 0, .slice none 0 0, .slice none 0 0]) ?_ 7 _ rfl; (with_reducible repeat (first | refine blk_drewN ?_ _ | refine blk_drew ?_ | refine blk_alloc ?_ _)); refine blk_put (cs := #[.int .i64 a0_0, .int .i64 0, .int .i64 0, .int .i64 0, .int .i64 0, .int .i64 0, .slice none 0 0, .slice none 0 0, .slice none 0 0]) ?_ 1 _ rfl; (with_reducible repeat (first | refine blk_drewN ?_ _ | refine blk_drew ?_ | refine blk_alloc ?_ _)); exact BK263.out⟩, ⟨aa_0⟩⟩
               ·replace c22 := Bool.eq_false_iff.mpr c22
                subst c22
                have H1 : (j2 kj13 a1 false a0_0 a0_1 a0_2 a0_3 a0_4 a0_5 l0_6 l0_7 l0_8 a0_0 a0_1 0 0 0 0 l0_7) = some r := by rw [if_neg (show ¬ (false = true) by decide)] at H; exact H
                clear H
                have H := H1
                clear H1
                have H' := am_ H
                clear H
                have hnb30 := NB262_263.out
                have hnc30 := NB263_262.out
                obtain ⟨hcz31_0, hcz31_1, hcz31_2, hcz31_3, hcz31_4, hcz31_5, hcz31_6, hcz31_7, hcz31_8, -, hfz31_1, hfz31_2, hfz31_3, hfz31_4, hfz31_5, hfz31_6, hfz31_7, hfz31_8⟩ := cn BK262
                go_wp2_with (first | ((with_reducible refine gate_callee (f := 50) rfl ?_); refine goesL_ (some 27) rfl rfl Try.func50 (by kernel_rfl) rfl #[.int .i64 a0_1] rfl aa_2 ?_; (with_reducible refine (code_typ.calls a0_1 false _ A21.out).mono ?_); rintro e w' ⟨rfl, ⟨nd, rfl⟩⟩; refine ⟨_, rfl, ?_⟩))
                go_meet
                case rel => exact ⟨_, (false), aa_1, H', ⟨by have := HJ10.out; have := HJ13.out; first | omega | exact Nat.le_refl _⟩, ⟨by (with_reducible repeat (first | refine blk_drewN ?_ _ | refine blk_drew ?_ | refine blk_alloc ?_ _)); refine blk_far ?_ NB262_263.out _; (with_reducible repeat (first | refine blk_drewN ?_ _ | refine blk_drew ?_ | refine blk_alloc ?_ _)); refine blk_far ?_ NB262_263.out _; (with_reducible repeat (first | refine blk_drewN ?_ _ | refine blk_drew ?_ | refine blk_alloc ?_ _)); exact BK262.out⟩, ⟨by (with_reducible repeat (first | refine blk_drewN ?_ _ | refine blk_drew ?_ | refine blk_alloc ?_ _)); refine blk_put (cs := #[.int .i64 a0_0, .int .i64 a0_1, .int .i64 0, .int .i64 0, .int .i64 0, .int .i64 0, .slice none 0 0, .slice none 0 0, .slice none 0 0]) ?_ 7 _ rfl; (with_reducible repeat (first | refine blk_drewN ?_ _ | refine blk_drew ?_ | refine blk_alloc ?_ _)); refine blk_put (cs := #[.int .i64 a0_0, .int .i64 0, .int .i64 0, .int .i64 0, .int .i64 0, .int .i64 0, .slice none 0 0, .slice none 0 0, .slice none 0 0]) ?_ 1 _ rfl; (with_reducible repeat (first | refine blk_drewN ?_ _ | refine blk_drew ?_ | refine blk_alloc ?_ _)); exact BK263.out⟩, ⟨aa_0⟩⟩
             case rest =>
              as_aux_lemma =>
               clear HC17
               try clear c16
               obtain ⟨kq, x6_16, rfl, HA, HJ16, BK262, BK263, HB⟩ := hcut
               cases kq with
               | zero => exact absurd HA.out (by simp [j2])
               | succ kj16 =>
                have H := HA.out
                clear HA
                simp only [j2] at H
                by_cases c32 : a0_0 = 4
                ·as_aux_lemma =>
                  rw [if_pos c32] at H
                  have c32b0 : (a0_0 == 4) = true := beq_iff_eq.mpr c32
                  have c32b1 : (a0_0 != 4) = false := bne_eq_false_iff_eq.mpr c32
                  clear c32
                  by_cases c33 : x6_16 = true
                  ·subst c33
                   have H1 : ((code_all.f kj16 l0_8 (wrap64 (a1 + 1))).bind fun t267 => (j4 kj16 t267 a0_0 a0_1 a0_2 a0_3 a0_4 a0_5 l0_6 l0_7 l0_8 a0_0 a0_1 0 0 0 0 ([] : List Int) l0_7 l0_8)) = some r := by rw [if_pos rfl] at H; exact H
                   clear H
                   have H := H1
                   clear H1
                   replace H := bm_ H
                   obtain ⟨t267, A340, H⟩ := H
                   replace H : (j4 kj16 t267 a0_0 a0_1 a0_2 a0_3 a0_4 a0_5 l0_6 l0_7 l0_8 a0_0 a0_1 0 0 0 0 ([] : List Int) l0_7 l0_8) = some r := H
                   have A34 := am_ A340
                   clear A340
                   have H' := am_ H
                   clear H
                   have hnb35 := NB262_263.out
                   have hnc35 := NB263_262.out
                   obtain ⟨hcz36_0, hcz36_1, hcz36_2, hcz36_3, hcz36_4, hcz36_5, hcz36_6, hcz36_7, hcz36_8, -, hfz36_1, hfz36_2, hfz36_3, hfz36_4, hfz36_5, hfz36_6, hfz36_7, hfz36_8⟩ := cn BK262
                   obtain ⟨hcz37_0, hcz37_1, hcz37_2, hcz37_3, hcz37_4, hcz37_5, hcz37_6, hcz37_7, hcz37_8, -, hfz37_1, hfz37_2, hfz37_3, hfz37_4, hfz37_5, hfz37_6, hfz37_7, hfz37_8⟩ := cn BK263
                   go_wp2_with (first | (go_at_call 28; (with_reducible refine (ih kj16 (by have := HJ10.out; have := HJ13.out; have := HJ16.out; omega) _ _ l0_8 (wrap64 (a1 + 1)) t267 _ ?side1 ?side2 A34.out).mono ?_); (case side1 => exact Kd.C_below HR0_8.out aa_0); (case side2 => exact HC0_8.out); rintro e w38 ⟨rfl, hb⟩; have n0_ := am_ (bbelow BK262 (by (with_reducible repeat (first | refine blk_drewN ?_ _ | refine blk_drew ?_ | refine blk_alloc ?_ _)); refine blk_far ?_ NB262_263.out _; (with_reducible repeat (first | refine blk_drewN ?_ _ | refine blk_drew ?_ | refine blk_alloc ?_ _)); exact BK262.out) hb); have n1_ := am_ (blk_below (g := gb263) (o := .cells #[.int .i64 a0_0, .int .i64 a0_1, .int .i64 0, .int .i64 0, .int .i64 0, .int .i64 0, .slice none 0 0, .slice A0_7 l0_7.length c0_7, .slice A0_8 l0_8.length c0_8] 45 (0, 0)) (by (with_reducible repeat (first | refine blk_drewN ?_ _ | refine blk_drew ?_ | refine blk_alloc ?_ _)); refine blk_put (cs := #[.int .i64 a0_0, .int .i64 a0_1, .int .i64 0, .int .i64 0, .int .i64 0, .int .i64 0, .slice none 0 0, .slice A0_7 l0_7.length c0_7, .slice none 0 0]) ?_ 8 _ rfl; (with_reducible repeat (first | refine blk_drewN ?_ _ | refine blk_drew ?_ | refine blk_alloc ?_ _)); exact BK263.out) hb); have n2_ := am_ (below_step aa_0 hb); clear BK262; clear BK263; clear HB; have BK262 := n0_; have BK263 := n1_; have HB := n2_; clear n0_ n1_ n2_; (try clear hb); (try clear hb2); (try clear hk); (try clear hi)))
                   go_meet
                   case rel => exact ⟨_, (t267), (a0_1), (0), (0), (0), (0), (([] : List Int)), (l0_7), (l0_8), (.slice none 0 0), (.slice A0_7 l0_7.length c0_7), (.slice A0_8 l0_8.length c0_8), aa_1, H', ⟨by have := HJ10.out; have := HJ13.out; have := HJ16.out; first | omega | exact Nat.le_refl _⟩, ⟨⟨_, _, rfl⟩⟩, ⟨⟨_, _, rfl⟩⟩, ⟨⟨_, _, rfl⟩⟩, ⟨aa_3⟩, ⟨aa_4⟩, ⟨aa_0⟩⟩
                  ·replace c33 := Bool.eq_false_iff.mpr c33
                   subst c33
                   have H1 : (j4 kj16 false a0_0 a0_1 a0_2 a0_3 a0_4 a0_5 l0_6 l0_7 l0_8 a0_0 a0_1 0 0 0 0 ([] : List Int) l0_7 l0_8) = some r := by rw [if_neg (show ¬ (false = true) by decide)] at H; exact H
                   clear H
                   have H := H1
                   clear H1
                   have H' := am_ H
                   clear H
                   have hnb39 := NB262_263.out
                   have hnc39 := NB263_262.out
                   obtain ⟨hcz40_0, hcz40_1, hcz40_2, hcz40_3, hcz40_4, hcz40_5, hcz40_6, hcz40_7, hcz40_8, -, hfz40_1, hfz40_2, hfz40_3, hfz40_4, hfz40_5, hfz40_6, hfz40_7, hfz40_8⟩ := cn BK262
                   obtain ⟨hcz41_0, hcz41_1, hcz41_2, hcz41_3, hcz41_4, hcz41_5, hcz41_6, hcz41_7, hcz41_8, -, hfz41_1, hfz41_2, hfz41_3, hfz41_4, hfz41_5, hfz41_6, hfz41_7, hfz41_8⟩ := cn BK263
                   go_wp2
                   go_meet
                   case rel => exact ⟨_, (false), (a0_1), (0), (0), (0), (0), (([] : List Int)), (l0_7), (l0_8), (.slice none 0 0), (.slice A0_7 l0_7.length c0_7), (.slice A0_8 l0_8.length c0_8), aa_1, H', ⟨by have := HJ10.out; have := HJ13.out; have := HJ16.out; first | omega | exact Nat.le_refl _⟩, ⟨⟨_, _, rfl⟩⟩, ⟨⟨_, _, rfl⟩⟩, ⟨⟨_, _, rfl⟩⟩, ⟨by (with_reducible repeat (first | refine blk_drewN ?_ _ | refine blk_drew ?_ | refine blk_alloc ?_ _)); refine blk_far ?_ NB262_263.out _; (with_reducible repeat (first | refine blk_drewN ?_ _ | refine blk_drew ?_ | refine blk_alloc ?_ _)); exact BK262.out⟩, ⟨by (with_reducible repeat (first | refine blk_drewN ?_ _ | refine blk_drew ?_ | refine blk_alloc ?_ _)); refine blk_put (cs := #[.int .i64 a0_0, .int .i64 a0_1, .int .i64 0, .int .i64 0, .int .i64 0, .int .i64 0, .slice none 0 0, .slice A0_7 l0_7.length c0_7, .slice none 0 0]) ?_ 8 _ rfl; (with_reducible repeat (first | refine blk_drewN ?_ _ | refine blk_drew ?_ | refine blk_alloc ?_ _)); exact BK263.out⟩, ⟨aa_0⟩⟩
                ·rw [if_neg c32] at H
                 have c32b0 : (a0_0 == 4) = false := beq_eq_false_iff_ne.mpr c32
                 have c32b1 : (a0_0 != 4) = true := bne_iff_ne.mpr c32
                 have H' := am_ H
                 clear H
                 have hnb42 := NB262_263.out
                 have hnc42 := NB263_262.out
                 obtain ⟨hcz43_0, hcz43_1, hcz43_2, hcz43_3, hcz43_4, hcz43_5, hcz43_6, hcz43_7, hcz43_8, -, hfz43_1, hfz43_2, hfz43_3, hfz43_4, hfz43_5, hfz43_6, hfz43_7, hfz43_8⟩ := cn BK262
                 go_wp2
                 go_meet
                 case rel => exact ⟨_, (x6_16), (a0_1), (0), (0), (0), (0), (([] : List Int)), (l0_7), (([] : List (S45))), (.slice none 0 0), (.slice A0_7 l0_7.length c0_7), (.slice none 0 0), aa_1, H', ⟨by have := HJ10.out; have := HJ13.out; have := HJ16.out; first | omega | exact Nat.le_refl _⟩, ⟨⟨_, _, rfl⟩⟩, ⟨⟨_, _, rfl⟩⟩, ⟨⟨_, _, rfl⟩⟩, ⟨aa_3⟩, ⟨aa_4⟩, ⟨aa_0⟩⟩
           ·as_aux_lemma =>
             replace c16 := Bool.eq_false_iff.mpr c16
             subst c16
             have H1 : (if t264 = 4 then (j3 kj13 true t264 (t264 == 4) a0_0 a0_1 a0_2 a0_3 a0_4 a0_5 l0_6 l0_7 l0_8 a0_0 0 0 0 0 0) else (j3 kj13 true t264 (t264 == 6) a0_0 a0_1 a0_2 a0_3 a0_4 a0_5 l0_6 l0_7 l0_8 a0_0 0 0 0 0 0)) = some r := by rw [if_neg (show ¬ (false = true) by decide)] at H; exact H
             clear H
             have H := H1
             clear H1
             have HC44 := am_ H
             clear H
             go_upto_if 53 with (fail)
             go_cut [53] (fun v53 wc => ∃ (kq : Nat) (x53_43 : Bool), v53 = .bool x53_43 ∧ Aside0 (j3 kq true t264 x53_43 a0_0 a0_1 a0_2 a0_3 a0_4 a0_5 l0_6 l0_7 l0_8 a0_0 0 0 0 0 0 = some r) ∧ Aside0 (kq ≤ kj13) ∧ Aside0 (wc.heap[gb262]? = some (.cells #[.int .i64 a0_0, .int .i64 a0_1, .int .i64 a0_2, .int .i64 a0_3, .int .i64 a0_4, .int .i64 a0_5, (.slice A0_6 l0_6.length c0_6), (.slice A0_7 l0_7.length c0_7), (.slice A0_8 l0_8.length c0_8)] 45 (0, 0))) ∧ Aside0 (wc.heap[gb263]? = some (.cells #[.int .i64 a0_0, .int .i64 0, .int .i64 0, .int .i64 0, .int .i64 0, .int .i64 0, (.slice none 0 0), (.slice none 0 0), (.slice none 0 0)] 45 (0, 0))) ∧ Aside0 (Below w.heap.size w wc))
             case first =>
              as_aux_lemma =>
               have H := HC44.out
               clear HC44
               by_cases c45 : t264 = 4
               ·rw [if_pos c45] at H
                have c45b0 : (t264 == 4) = true := beq_iff_eq.mpr c45
                have c45b1 : (t264 != 4) = false := bne_eq_false_iff_eq.mpr c45
                clear c45
                (first | rw [c45b0] | (simp only [i64_w, i32_w]; rw [c45b0]) | skip)
                have H' := am_ H
                clear H
                go_wp2
                go_meet
                case rel => exact ⟨_, ((t264 == 4)), aa_1, H', ⟨by have := HJ10.out; have := HJ13.out; first | omega | exact Nat.le_refl _⟩, ⟨aa_3⟩, ⟨aa_4⟩, ⟨aa_0⟩⟩
               ·rw [if_neg c45] at H
                have c45b0 : (t264 == 4) = false := beq_eq_false_iff_ne.mpr c45
                have c45b1 : (t264 != 4) = true := bne_iff_ne.mpr c45
                (first | rw [c45b0] | (simp only [i64_w, i32_w]; rw [c45b0]) | skip)
                have H' := am_ H
                clear H
                go_wp2
                go_meet
                case rel => exact ⟨_, ((t264 == 6)), aa_1, H', ⟨by have := HJ10.out; have := HJ13.out; first | omega | exact Nat.le_refl _⟩, ⟨aa_3⟩, ⟨aa_4⟩, ⟨aa_0⟩⟩
             case rest =>
              as_aux_lemma =>
               clear HC44
               try clear c16
               obtain ⟨kq, x53_43, rfl, HA, HJ43, BK262, BK263, HB⟩ := hcut
               cases kq with
               | zero => exact absurd HA.out (by simp [j3])
               | succ kj43 =>
                have H := HA.out
                clear HA
                simp only [j3] at H
                by_cases c46 : x53_43 = true
                ·subst c46
                 have H1 : (j4 kj43 true a0_0 a0_1 a0_2 a0_3 a0_4 a0_5 l0_6 l0_7 l0_8 a0_0 0 a0_2 0 0 0 ([] : List Int) ([] : List (S45)) ([] : List (S45))) = some r := by rw [if_pos rfl] at H; exact H
                 clear H
                 have H := H1
                 clear H1
                 have H' := am_ H
                 clear H
                 have hnb47 := NB262_263.out
                 have hnc47 := NB263_262.out
                 obtain ⟨hcz48_0, hcz48_1, hcz48_2, hcz48_3, hcz48_4, hcz48_5, hcz48_6, hcz48_7, hcz48_8, -, hfz48_1, hfz48_2, hfz48_3, hfz48_4, hfz48_5, hfz48_6, hfz48_7, hfz48_8⟩ := cn BK262
                 obtain ⟨hcz49_0, hcz49_1, hcz49_2, hcz49_3, hcz49_4, hcz49_5, hcz49_6, hcz49_7, hcz49_8, -, hfz49_1, hfz49_2, hfz49_3, hfz49_4, hfz49_5, hfz49_6, hfz49_7, hfz49_8⟩ := cn BK263
                 go_wp2
                 go_meet
                 case rel => exact ⟨_, (true), (0), (a0_2), (0), (0), (0), (([] : List Int)), (([] : List (S45))), (([] : List (S45))), (.slice none 0 0), (.slice none 0 0), (.slice none 0 0), aa_1, H', ⟨by have := HJ10.out; have := HJ13.out; have := HJ43.out; first | omega | exact Nat.le_refl _⟩, ⟨⟨_, _, rfl⟩⟩, ⟨⟨_, _, rfl⟩⟩, ⟨⟨_, _, rfl⟩⟩, ⟨by (with_reducible repeat (first | refine blk_drewN ?_ _ | refine blk_drew ?_ | refine blk_alloc ?_ _)); refine blk_far ?_ NB262_263.out _; (with_reducible repeat (first | refine blk_drewN ?_ _ | refine blk_drew ?_ | refine blk_alloc ?_ _)); exact BK262.out⟩, ⟨by (with_reducible repeat (first | refine blk_drewN ?_ _ | refine blk_drew ?_ | refine blk_alloc ?_ _)); refine blk_put (cs := #[.int .i64 a0_0, .int .i64 0, .int .i64 0, .int .i64 0, .int .i64 0, .int .i64 0, .slice none 0 0, .slice none 0 0, .slice none 0 0]) ?_ 2 _ rfl; (with_reducible repeat (first | refine blk_drewN ?_ _ | refine blk_drew ?_ | refine blk_alloc ?_ _)); exact BK263.out⟩, ⟨aa_0⟩⟩
                ·as_aux_lemma =>
                  replace c46 := Bool.eq_false_iff.mpr c46
                  subst c46
                  have H1 : (if t264 = 5 then ((code_good_1_slices_ContainsFunc.f kj43 l0_6).bind fun t268 => (j4 kj43 (!t268) a0_0 a0_1 a0_2 a0_3 a0_4 a0_5 l0_6 l0_7 l0_8 a0_0 0 a0_2 0 0 0 l0_6 ([] : List (S45)) ([] : List (S45)))) else (if t264 = 7 then (j4 kj43 true a0_0 a0_1 a0_2 a0_3 a0_4 a0_5 l0_6 l0_7 l0_8 a0_0 0 0 a0_3 a0_4 0 ([] : List Int) ([] : List (S45)) ([] : List (S45))) else (if t264 = 9 then (j4 kj43 (a0_5 == (wrap64 (wrap32 (a0_5)))) a0_0 a0_1 a0_2 a0_3 a0_4 a0_5 l0_6 l0_7 l0_8 a0_0 0 0 0 0 a0_5 ([] : List Int) ([] : List (S45)) ([] : List (S45))) else (if t264 = 10 then (j4 kj43 true a0_0 a0_1 a0_2 a0_3 a0_4 a0_5 l0_6 l0_7 l0_8 a0_0 0 0 0 0 a0_5 ([] : List Int) ([] : List (S45)) ([] : List (S45))) else (some false))))) = some r := by rw [if_neg (show ¬ (false = true) by decide)] at H; exact H
                  clear H
                  have H := H1
                  clear H1
                  by_cases c50 : t264 = 5
                  ·as_aux_lemma =>
                    rw [if_pos c50] at H
                    have c50b0 : (t264 == 5) = true := beq_iff_eq.mpr c50
                    have c50b1 : (t264 != 5) = false := bne_eq_false_iff_eq.mpr c50
                    clear c50
                    replace H := bm_ H
                    obtain ⟨t268, A510, H⟩ := H
                    replace H : (j4 kj43 (!t268) a0_0 a0_1 a0_2 a0_3 a0_4 a0_5 l0_6 l0_7 l0_8 a0_0 0 a0_2 0 0 0 l0_6 ([] : List (S45)) ([] : List (S45))) = some r := H
                    have A51 := am_ A510
                    clear A510
                    have H' := am_ H
                    clear H
                    try go_wp2
                    have n0_ := am_ (blk_drew BK262.out)
                    have n1_ := am_ (blk_drew BK263.out)
                    have n2_ := am_ (below_drew1 HB.out)
                    clear BK262
                    clear BK263
                    clear HB
                    have BK262 := n0_
                    have BK263 := n1_
                    have HB := n2_
                    clear n0_ n1_ n2_
                    refine start_ (n := 8) (S := fun w' => w'.cell? ⟨gb262, 2, none⟩ = some (.int .i64 a0_2) ∧ w'.cell? ⟨gb262, 6, none⟩ = some (.slice A0_6 l0_6.length c0_6)) (ds := []) bb8_ (by kernel_rfl) rfl rfl ⟨bc BK262 2, bc BK262 6⟩ (fun hHeld => ?_); refine with_tabW code_all.q.tab18 code_all.q.bits18 (fun HT_ HW_ => ?_)
                    generalize wc.drew = w52 at BK262 BK263 HB hHeld ⊢
                    refine pure_ (i := 0) (N := some 61) (v := ?_) (a' := ?_) bb7_ rfl rfl (any_of HT_.out (by kernel_rfl)) (fun _ _ _ h => h) (Or.inl ⟨by rfl, ?_⟩) ?_ ?_
                    rotate_left; · intro w'; go_simp; with_reducible rfl
                    rotate_left; · simp only [Act.put, e1, e2, e3, i64_w, i32_w]; rfl
                    refine pure_ (i := 2) (N := some 63) (v := ?_) (a' := ?_) bb6_ rfl rfl (any_of HT_.out (by kernel_rfl)) (fun _ _ _ h => h) (Or.inl ⟨by rfl, ?_⟩) ?_ ?_
                    rotate_left; · intro w'; go_simp; with_reducible rfl
                    rotate_left; · simp only [Act.put, e1, e2, e3, i64_w, i32_w]; rfl
                    refine take_ (i := 1) (N := some 62) (v := ?_) (a' := ?_) bb5_ rfl rfl (take_ofW HT_.out HW_.out (by kernel_rfl)) (fun _ _ _ h => h) (Or.inl ⟨by rfl, ?_⟩) hHeld ?_ ?_
                    rotate_left; · rintro w' ⟨s0, s1⟩; go_simp; with_reducible rfl
                    rotate_left; · simp only [Act.put, e1, e2, e3, i64_w, i32_w]; rfl
                    refine pure_ (i := 4) (N := some 65) (v := ?_) (a' := ?_) bb4_ rfl rfl (any_of HT_.out (by kernel_rfl)) (fun _ _ _ h => h) (Or.inl ⟨by rfl, ?_⟩) ?_ ?_
                    rotate_left; · intro w'; go_simp; with_reducible rfl
                    rotate_left; · simp only [Act.put, e1, e2, e3, i64_w, i32_w]; rfl
                    refine take_ (i := 3) (N := some 64) (v := ?_) (a' := ?_) bb3_ rfl rfl (take_ofW HT_.out HW_.out (by kernel_rfl)) (fun _ _ _ h => h) (Or.inl ⟨by rfl, ?_⟩) hHeld ?_ ?_
                    rotate_left; · rintro w' ⟨s0, s1⟩; go_simp; with_reducible rfl
                    rotate_left; · simp only [Act.put, e1, e2, e3, i64_w, i32_w]; rfl
                    refine one_ (i := 5) (N := none) bb2_ rfl rfl (one_of HT_.out (by kernel_rfl)) (by decide) (fun K hK => ?_)
                    have hs53 : w52.cell? ⟨gb263, 2, none⟩ = some (.int .i64 0) := bc BK263 2
                    have hfs53 := blk_frozen BK263.out 2
                    have hns53_0 := NB262_263.out
                    have hms53_0 := NB263_262.out
                    refine skip_ (w1 := ?_) (by rfl) rfl ?_ ?_
                    rotate_left
                    ·go_simp
                     rfl
                    refine hK.out _ _ ⟨((cell_far (p := ⟨gb263, _, none⟩) NB262_263.out _).trans (hHeld.1)), ((cell_far (p := ⟨gb263, _, none⟩) NB262_263.out _).trans (hHeld.2))⟩ (fun hHeld => ?_)
                    clear hK K
                    refine pure_ (i := 6) (N := some 66) (v := ?_) (a' := ?_) bb1_ rfl rfl (any_of HT_.out (by kernel_rfl)) (fun _ _ _ h => h) (Or.inl ⟨by rfl, ?_⟩) ?_ ?_
                    rotate_left; · intro w'; go_simp; with_reducible rfl
                    rotate_left; · simp only [Act.put, e1, e2, e3, i64_w, i32_w]; rfl
                    refine one_ (i := 7) (N := none) bb0_ rfl rfl (one_of HT_.out (by kernel_rfl)) (by decide) (fun K hK => ?_)
                    have hs54 : w52.cell? ⟨gb263, 6, none⟩ = some (.slice none 0 0) := bc BK263 6
                    have hfs54 := blk_frozen BK263.out 6
                    have hns54_0 := NB262_263.out
                    have hms54_0 := NB263_262.out
                    refine skip_ (w1 := ?_) (by rfl) rfl ?_ ?_
                    rotate_left
                    ·go_simp
                     rfl
                    refine hK.out _ _ ⟨((cell_far (p := ⟨gb263, _, none⟩) NB262_263.out _).trans (hHeld.1)), ((cell_far (p := ⟨gb263, _, none⟩) NB262_263.out _).trans (hHeld.2))⟩ (fun hHeld => ?_)
                    clear hK K
                    refine done_ (done_of HT_.out (by kernel_rfl)) ?_
                    have hnb55 := NB262_263.out
                    have hnc55 := NB263_262.out
                    obtain ⟨hcz56_0, hcz56_1, hcz56_2, hcz56_3, hcz56_4, hcz56_5, hcz56_6, hcz56_7, hcz56_8, -, hfz56_1, hfz56_2, hfz56_3, hfz56_4, hfz56_5, hfz56_6, hfz56_7, hfz56_8⟩ := cn BK262
                    try go_wp2_with (first | ((with_reducible refine gate_callee (f := 58) rfl ?_); refine goesL_ (some 69) rfl rfl Try.func58 (by kernel_rfl) rfl #[.slice A0_6 l0_6.length c0_6, .func (.func 59) #[] #[]] rfl aa_2 ?_; (with_reducible refine (code_good_1_slices_ContainsFunc.calls kj43 _ _ l0_6  t268 _ ?side1 ?side2 A51.out).mono ?_); (case side1 => exact Kd.C_below HR0_6.out aa_0); (case side2 => exact HC0_6.out); rintro e w' ⟨rfl, ⟨nd, rfl⟩⟩; refine ⟨_, rfl, ?_⟩))
                    go_meet
                    case rel => exact ⟨_, (!t268), (0), (a0_2), (0), (0), (0), (l0_6), (([] : List (S45))), (([] : List (S45))), (.slice A0_6 l0_6.length c0_6), (.slice none 0 0), (.slice none 0 0), aa_1, H', ⟨by have := HJ10.out; have := HJ13.out; have := HJ43.out; first | omega | exact Nat.le_refl _⟩, ⟨⟨_, _, rfl⟩⟩, ⟨⟨_, _, rfl⟩⟩, ⟨⟨_, _, rfl⟩⟩, ⟨by (with_reducible repeat (first | refine blk_drewN ?_ _ | refine blk_drew ?_ | refine blk_alloc ?_ _)); refine blk_far ?_ NB262_263.out _; (with_reducible repeat (first | refine blk_drewN ?_ _ | refine blk_drew ?_ | refine blk_alloc ?_ _)); refine blk_far ?_ NB262_263.out _; (with_reducible repeat (first | refine blk_drewN ?_ _ | refine blk_drew ?_ | refine blk_alloc ?_ _)); exact BK262.out⟩, ⟨by (with_reducible repeat (first | refine blk_drewN ?_ _ | refine blk_drew ?_ | refine blk_alloc ?_ _)); refine blk_put (cs := #[.int .i64 a0_0, .int .i64 0, .int .i64 a0_2, .int .i64 0, .int .i64 0, .int .i64 0, .slice none 0 0, .slice none 0 0, .slice none 0 0]) ?_ 6 _ rfl; (with_reducible repeat (first | refine blk_drewN ?_ _ | refine blk_drew ?_ | refine blk_alloc ?_ _)); refine blk_put (cs := #[.int .i64 a0_0, .int .i64 0, .int .i64 0, .int .i64 0, .int .i64 0, .int .i64 0, .slice none 0 0, .slice none 0 0, .slice none 0 0]) ?_ 2 _ rfl; (with_reducible repeat (first | refine blk_drewN ?_ _ | refine blk_drew ?_ | refine blk_alloc ?_ _)); exact BK263.out⟩, ⟨aa_0⟩⟩
                  ·as_aux_lemma =>
                    rw [if_neg c50] at H
                    have c50b0 : (t264 == 5) = false := beq_eq_false_iff_ne.mpr c50
                    have c50b1 : (t264 != 5) = true := bne_iff_ne.mpr c50
                    by_cases c57 : t264 = 7
                    ·as_aux_lemma =>
                      rw [if_pos c57] at H
                      have c57b0 : (t264 == 7) = true := beq_iff_eq.mpr c57
                      have c57b1 : (t264 != 7) = false := bne_eq_false_iff_eq.mpr c57
                      clear c57
                      have H' := am_ H
                      clear H
                      try go_wp2
                      have n0_ := am_ (blk_drew BK262.out)
                      have n1_ := am_ (blk_drew BK263.out)
                      have n2_ := am_ (below_drew1 HB.out)
                      clear BK262
                      clear BK263
                      clear HB
                      have BK262 := n0_
                      have BK263 := n1_
                      have HB := n2_
                      clear n0_ n1_ n2_
                      refine start_ (n := 8) (S := fun w' => w'.cell? ⟨gb262, 3, none⟩ = some (.int .i64 a0_3) ∧ w'.cell? ⟨gb262, 4, none⟩ = some (.int .i64 a0_4)) (ds := []) bb8_ (by kernel_rfl) rfl rfl ⟨bc BK262 3, bc BK262 4⟩ (fun hHeld => ?_); refine with_tabW code_all.q.tab21 code_all.q.bits21 (fun HT_ HW_ => ?_)
                      generalize wc.drew = w58 at BK262 BK263 HB hHeld ⊢
                      refine pure_ (i := 0) (N := some 73) (v := ?_) (a' := ?_) bb7_ rfl rfl (any_of HT_.out (by kernel_rfl)) (fun _ _ _ h => h) (Or.inl ⟨by rfl, ?_⟩) ?_ ?_
                      rotate_left; · intro w'; go_simp; with_reducible rfl
                      rotate_left; · simp only [Act.put, e1, e2, e3, i64_w, i32_w]; rfl
                      refine pure_ (i := 2) (N := some 75) (v := ?_) (a' := ?_) bb6_ rfl rfl (any_of HT_.out (by kernel_rfl)) (fun _ _ _ h => h) (Or.inl ⟨by rfl, ?_⟩) ?_ ?_
                      rotate_left; · intro w'; go_simp; with_reducible rfl
                      rotate_left; · simp only [Act.put, e1, e2, e3, i64_w, i32_w]; rfl
                      refine take_ (i := 1) (N := some 74) (v := ?_) (a' := ?_) bb5_ rfl rfl (take_ofW HT_.out HW_.out (by kernel_rfl)) (fun _ _ _ h => h) (Or.inl ⟨by rfl, ?_⟩) hHeld ?_ ?_
                      rotate_left; · rintro w' ⟨s0, s1⟩; go_simp; with_reducible rfl
                      rotate_left; · simp only [Act.put, e1, e2, e3, i64_w, i32_w]; rfl
                      refine pure_ (i := 4) (N := some 77) (v := ?_) (a' := ?_) bb4_ rfl rfl (any_of HT_.out (by kernel_rfl)) (fun _ _ _ h => h) (Or.inl ⟨by rfl, ?_⟩) ?_ ?_
                      rotate_left; · intro w'; go_simp; with_reducible rfl
                      rotate_left; · simp only [Act.put, e1, e2, e3, i64_w, i32_w]; rfl
                      refine take_ (i := 3) (N := some 76) (v := ?_) (a' := ?_) bb3_ rfl rfl (take_ofW HT_.out HW_.out (by kernel_rfl)) (fun _ _ _ h => h) (Or.inl ⟨by rfl, ?_⟩) hHeld ?_ ?_
                      rotate_left; · rintro w' ⟨s0, s1⟩; go_simp; with_reducible rfl
                      rotate_left; · simp only [Act.put, e1, e2, e3, i64_w, i32_w]; rfl
                      refine one_ (i := 5) (N := none) bb2_ rfl rfl (one_of HT_.out (by kernel_rfl)) (by decide) (fun K hK => ?_)
                      have hs59 : w58.cell? ⟨gb263, 3, none⟩ = some (.int .i64 0) := bc BK263 3
                      have hfs59 := blk_frozen BK263.out 3
                      have hns59_0 := NB262_263.out
                      have hms59_0 := NB263_262.out
                      refine skip_ (w1 := ?_) (by rfl) rfl ?_ ?_
                      rotate_left
                      ·go_simp
                       rfl
                      refine hK.out _ _ ⟨((cell_far (p := ⟨gb263, _, none⟩) NB262_263.out _).trans (hHeld.1)), ((cell_far (p := ⟨gb263, _, none⟩) NB262_263.out _).trans (hHeld.2))⟩ (fun hHeld => ?_)
                      clear hK K
                      refine pure_ (i := 6) (N := some 78) (v := ?_) (a' := ?_) bb1_ rfl rfl (any_of HT_.out (by kernel_rfl)) (fun _ _ _ h => h) (Or.inl ⟨by rfl, ?_⟩) ?_ ?_
                      rotate_left; · intro w'; go_simp; with_reducible rfl
                      rotate_left; · simp only [Act.put, e1, e2, e3, i64_w, i32_w]; rfl
                      refine one_ (i := 7) (N := none) bb0_ rfl rfl (one_of HT_.out (by kernel_rfl)) (by decide) (fun K hK => ?_)
                      have hs60 : w58.cell? ⟨gb263, 4, none⟩ = some (.int .i64 0) := bc BK263 4
                      have hfs60 := blk_frozen BK263.out 4
                      have hns60_0 := NB262_263.out
                      have hms60_0 := NB263_262.out
                      refine skip_ (w1 := ?_) (by rfl) rfl ?_ ?_
                      rotate_left
                      ·go_simp
                       rfl
                      refine hK.out _ _ ⟨((cell_far (p := ⟨gb263, _, none⟩) NB262_263.out _).trans (hHeld.1)), ((cell_far (p := ⟨gb263, _, none⟩) NB262_263.out _).trans (hHeld.2))⟩ (fun hHeld => ?_)
                      clear hK K
                      refine done_ (done_of HT_.out (by kernel_rfl)) ?_
                      try go_wp2
                      go_meet
                      case rel => exact ⟨_, (true), (0), (0), (a0_3), (a0_4), (0), (([] : List Int)), (([] : List (S45))), (([] : List (S45))), (.slice none 0 0), (.slice none 0 0), (.slice none 0 0), aa_1, H', ⟨by have := HJ10.out; have := HJ13.out; have := HJ43.out; first | omega | exact Nat.le_refl _⟩, ⟨⟨_, _, rfl⟩⟩, ⟨⟨_, _, rfl⟩⟩, ⟨⟨_, _, rfl⟩⟩, ⟨by (with_reducible repeat (first | refine blk_drewN ?_ _ | refine blk_drew ?_ | refine blk_alloc ?_ _)); refine blk_far ?_ NB262_263.out _; (with_reducible repeat (first | refine blk_drewN ?_ _ | refine blk_drew ?_ | refine blk_alloc ?_ _)); refine blk_far ?_ NB262_263.out _; (with_reducible repeat (first | refine blk_drewN ?_ _ | refine blk_drew ?_ | refine blk_alloc ?_ _)); exact BK262.out⟩, ⟨by (with_reducible repeat (first | refine blk_drewN ?_ _ | refine blk_drew ?_ | refine blk_alloc ?_ _)); refine blk_put (cs := #[.int .i64 a0_0, .int .i64 0, .int .i64 0, .int .i64 a0_3, .int .i64 0, .int .i64 0, .slice none 0 0, .slice none 0 0, .slice none 0 0]) ?_ 4 _ rfl; (with_reducible repeat (first | refine blk_drewN ?_ _ | refine blk_drew ?_ | refine blk_alloc ?_ _)); refine blk_put (cs := #[.int .i64 a0_0, .int .i64 0, .int .i64 0, .int .i64 0, .int .i64 0, .int .i64 0, .slice none 0 0, .slice none 0 0, .slice none 0 0]) ?_ 3 _ rfl; (with_reducible repeat (first | refine blk_drewN ?_ _ | refine blk_drew ?_ | refine blk_alloc ?_ _)); exact BK263.out⟩, ⟨aa_0⟩⟩
                    ·as_aux_lemma =>
                      rw [if_neg c57] at H
                      have c57b0 : (t264 == 7) = false := beq_eq_false_iff_ne.mpr c57
                      have c57b1 : (t264 != 7) = true := bne_iff_ne.mpr c57
                      by_cases c61 : t264 = 9
                      ·rw [if_pos c61] at H
                       have c61b0 : (t264 == 9) = true := beq_iff_eq.mpr c61
                       have c61b1 : (t264 != 9) = false := bne_eq_false_iff_eq.mpr c61
                       clear c61
                       have H' := am_ H
                       clear H
                       have hnb62 := NB262_263.out
                       have hnc62 := NB263_262.out
                       obtain ⟨hcz63_0, hcz63_1, hcz63_2, hcz63_3, hcz63_4, hcz63_5, hcz63_6, hcz63_7, hcz63_8, -, hfz63_1, hfz63_2, hfz63_3, hfz63_4, hfz63_5, hfz63_6, hfz63_7, hfz63_8⟩ := cn BK262
                       obtain ⟨hcz64_0, hcz64_1, hcz64_2, hcz64_3, hcz64_4, hcz64_5, hcz64_6, hcz64_7, hcz64_8, -, hfz64_1, hfz64_2, hfz64_3, hfz64_4, hfz64_5, hfz64_6, hfz64_7, hfz64_8⟩ := cn BK263
                       go_wp2
                       go_meet
                       case rel => exact ⟨_, ((a0_5 == (wrap64 (wrap32 (a0_5))))), (0), (0), (0), (0), (a0_5), (([] : List Int)), (([] : List (S45))), (([] : List (S45))), (.slice none 0 0), (.slice none 0 0), (.slice none 0 0), aa_1, H', ⟨by have := HJ10.out; have := HJ13.out; have := HJ43.out; first | omega | exact Nat.le_refl _⟩, ⟨⟨_, _, rfl⟩⟩, ⟨⟨_, _, rfl⟩⟩, ⟨⟨_, _, rfl⟩⟩, ⟨by (with_reducible repeat (first | refine blk_drewN ?_ _ | refine blk_drew ?_ | refine blk_alloc ?_ _)); refine blk_far ?_ NB262_263.out _; (with_reducible repeat (first | refine blk_drewN ?_ _ | refine blk_drew ?_ | refine blk_alloc ?_ _)); exact BK262.out⟩, ⟨by (with_reducible repeat (first | refine blk_drewN ?_ _ | refine blk_drew ?_ | refine blk_alloc ?_ _)); refine blk_put (cs := #[.int .i64 a0_0, .int .i64 0, .int .i64 0, .int .i64 0, .int .i64 0, .int .i64 0, .slice none 0 0, .slice none 0 0, .slice none 0 0]) ?_ 5 _ rfl; (with_reducible repeat (first | refine blk_drewN ?_ _ | refine blk_drew ?_ | refine blk_alloc ?_ _)); exact BK263.out⟩, ⟨aa_0⟩⟩
                      ·rw [if_neg c61] at H
                       have c61b0 : (t264 == 9) = false := beq_eq_false_iff_ne.mpr c61
                       have c61b1 : (t264 != 9) = true := bne_iff_ne.mpr c61
                       by_cases c65 : t264 = 10
                       ·rw [if_pos c65] at H
                        have c65b0 : (t264 == 10) = true := beq_iff_eq.mpr c65
                        have c65b1 : (t264 != 10) = false := bne_eq_false_iff_eq.mpr c65
                        clear c65
                        have H' := am_ H
                        clear H
                        have hnb66 := NB262_263.out
                        have hnc66 := NB263_262.out
                        obtain ⟨hcz67_0, hcz67_1, hcz67_2, hcz67_3, hcz67_4, hcz67_5, hcz67_6, hcz67_7, hcz67_8, -, hfz67_1, hfz67_2, hfz67_3, hfz67_4, hfz67_5, hfz67_6, hfz67_7, hfz67_8⟩ := cn BK262
                        obtain ⟨hcz68_0, hcz68_1, hcz68_2, hcz68_3, hcz68_4, hcz68_5, hcz68_6, hcz68_7, hcz68_8, -, hfz68_1, hfz68_2, hfz68_3, hfz68_4, hfz68_5, hfz68_6, hfz68_7, hfz68_8⟩ := cn BK263
                        go_wp2
                        go_meet
                        case rel => exact ⟨_, (true), (0), (0), (0), (0), (a0_5), (([] : List Int)), (([] : List (S45))), (([] : List (S45))), (.slice none 0 0), (.slice none 0 0), (.slice none 0 0), aa_1, H', ⟨by have := HJ10.out; have := HJ13.out; have := HJ43.out; first | omega | exact Nat.le_refl _⟩, ⟨⟨_, _, rfl⟩⟩, ⟨⟨_, _, rfl⟩⟩, ⟨⟨_, _, rfl⟩⟩, ⟨by (with_reducible repeat (first | refine blk_drewN ?_ _ | refine blk_drew ?_ | refine blk_alloc ?_ _)); refine blk_far ?_ NB262_263.out _; (with_reducible repeat (first | refine blk_drewN ?_ _ | refine blk_drew ?_ | refine blk_alloc ?_ _)); exact BK262.out⟩, ⟨by (with_reducible repeat (first | refine blk_drewN ?_ _ | refine blk_drew ?_ | refine blk_alloc ?_ _)); refine blk_put (cs := #[.int .i64 a0_0, .int .i64 0, .int .i64 0, .int .i64 0, .int .i64 0, .int .i64 0, .slice none 0 0, .slice none 0 0, .slice none 0 0]) ?_ 5 _ rfl; (with_reducible repeat (first | refine blk_drewN ?_ _ | refine blk_drew ?_ | refine blk_alloc ?_ _)); exact BK263.out⟩, ⟨aa_0⟩⟩
                       ·rw [if_neg c65] at H
                        have c65b0 : (t264 == 10) = false := beq_eq_false_iff_ne.mpr c65
                        have c65b1 : (t264 != 10) = true := bne_iff_ne.mpr c65
                        obtain rfl := Option.some.inj H
                        go_wp2
                        go_ret
                        exact ⟨by first | rfl | (simp [errW_none, errW_some] <;> rfl) | (simp [*, errW_none, errW_some] <;> rfl), by repeat (first | (with_reducible first | exact HB.out | apply below_alloc | apply pw_below_drewN | apply below_drew1 | refine below_set ?_ GE262.out | refine below_set ?_ GE263.out) | exact HB.out)⟩
 case rest =>
  as_aux_lemma =>
   clear HC4
   try clear hcz10_0
   try clear hcz10_1
   try clear hcz10_2
   try clear hcz10_3
   try clear hcz10_4
   try clear hcz10_5
   try clear hcz10_6
   try clear hcz10_7
   try clear hcz10_8
   try clear hcz6_0
   try clear hcz6_1
   try clear hcz6_2
   try clear hcz6_3
   try clear hcz6_4
   try clear hcz6_5
   try clear hcz6_6
   try clear hcz6_7
   try clear hcz6_8
   try clear hfz10_1
   try clear hfz10_2
   try clear hfz10_3
   try clear hfz10_4
   try clear hfz10_5
   try clear hfz10_6
   try clear hfz10_7
   try clear hfz10_8
   try clear hfz6_1
   try clear hfz6_2
   try clear hfz6_3
   try clear hfz6_4
   try clear hfz6_5
   try clear hfz6_6
   try clear hfz6_7
   try clear hfz6_8
   obtain ⟨kq, x6_3, x0z_3, x1z_3, x2z_3, x3z_3, x4z_3, x5z_3, x6z_3, x7z_3, u5z, u6z, u7z, rfl, HA, HJ3, HLN_5z, HLN_6z, HLN_7z, BK262, BK263, HB⟩ := hcut
   obtain ⟨Aq264006_3, cq264006_3, rfl⟩ := HLN_5z.out
   clear HLN_5z
   obtain ⟨Aq264007_3, cq264007_3, rfl⟩ := HLN_6z.out
   clear HLN_6z
   obtain ⟨Aq264008_3, cq264008_3, rfl⟩ := HLN_7z.out
   clear HLN_7z
   cases kq with
   | zero => exact absurd HA.out (by simp [j4])
   | succ kj3 =>
    have H := HA.out
    clear HA
    simp only [j4] at H
    by_cases c69 : x6_3 = true
    ·as_aux_lemma =>
      subst c69
      have H1 : ((code_word.f a0_2).bind fun t269 => (if t269 = true then ((code_word.f a0_3).bind fun t270 => (if t270 = true then ((code_word.f a0_4).bind fun t271 => (if t271 = true then (if x0z_3 = a0_1 then (if x1z_3 = a0_2 then (if x2z_3 = a0_3 then (if x3z_3 = a0_4 then (if x4z_3 = a0_5 then (if (x5z_3.length : Int) = (l0_6.length : Int) then (if (x6z_3.length : Int) = (l0_7.length : Int) then (some ((x7z_3.length : Int) == (l0_8.length : Int))) else (some false)) else (some false)) else (some false)) else (some false)) else (some false)) else (some false)) else (some false)) else (some false))) else (some false))) else (some false))) = some r := by rw [if_pos rfl] at H; exact H
      clear H
      have H := H1
      clear H1
      replace H := bm_ H
      obtain ⟨t269, A700, H⟩ := H
      replace H : (if t269 = true then ((code_word.f a0_3).bind fun t270 => (if t270 = true then ((code_word.f a0_4).bind fun t271 => (if t271 = true then (if x0z_3 = a0_1 then (if x1z_3 = a0_2 then (if x2z_3 = a0_3 then (if x3z_3 = a0_4 then (if x4z_3 = a0_5 then (if (x5z_3.length : Int) = (l0_6.length : Int) then (if (x6z_3.length : Int) = (l0_7.length : Int) then (some ((x7z_3.length : Int) == (l0_8.length : Int))) else (some false)) else (some false)) else (some false)) else (some false)) else (some false)) else (some false)) else (some false)) else (some false))) else (some false))) else (some false)) = some r := H
      have A70 := am_ A700
      clear A700
      by_cases c71 : t269 = true
      ·as_aux_lemma =>
        subst c71
        have H1 : ((code_word.f a0_3).bind fun t270 => (if t270 = true then ((code_word.f a0_4).bind fun t271 => (if t271 = true then (if x0z_3 = a0_1 then (if x1z_3 = a0_2 then (if x2z_3 = a0_3 then (if x3z_3 = a0_4 then (if x4z_3 = a0_5 then (if (x5z_3.length : Int) = (l0_6.length : Int) then (if (x6z_3.length : Int) = (l0_7.length : Int) then (some ((x7z_3.length : Int) == (l0_8.length : Int))) else (some false)) else (some false)) else (some false)) else (some false)) else (some false)) else (some false)) else (some false)) else (some false))) else (some false))) = some r := by rw [if_pos rfl] at H; exact H
        clear H
        have H := H1
        clear H1
        replace H := bm_ H
        obtain ⟨t270, A720, H⟩ := H
        replace H : (if t270 = true then ((code_word.f a0_4).bind fun t271 => (if t271 = true then (if x0z_3 = a0_1 then (if x1z_3 = a0_2 then (if x2z_3 = a0_3 then (if x3z_3 = a0_4 then (if x4z_3 = a0_5 then (if (x5z_3.length : Int) = (l0_6.length : Int) then (if (x6z_3.length : Int) = (l0_7.length : Int) then (some ((x7z_3.length : Int) == (l0_8.length : Int))) else (some false)) else (some false)) else (some false)) else (some false)) else (some false)) else (some false)) else (some false)) else (some false))) else (some false)) = some r := H
        have A72 := am_ A720
        clear A720
        by_cases c73 : t270 = true
        ·as_aux_lemma =>
          subst c73
          have H1 : ((code_word.f a0_4).bind fun t271 => (if t271 = true then (if x0z_3 = a0_1 then (if x1z_3 = a0_2 then (if x2z_3 = a0_3 then (if x3z_3 = a0_4 then (if x4z_3 = a0_5 then (if (x5z_3.length : Int) = (l0_6.length : Int) then (if (x6z_3.length : Int) = (l0_7.length : Int) then (some ((x7z_3.length : Int) == (l0_8.length : Int))) else (some false)) else (some false)) else (some false)) else (some false)) else (some false)) else (some false)) else (some false)) else (some false))) = some r := by rw [if_pos rfl] at H; exact H
          clear H
          have H := H1
          clear H1
          replace H := bm_ H
          obtain ⟨t271, A740, H⟩ := H
          replace H : (if t271 = true then (if x0z_3 = a0_1 then (if x1z_3 = a0_2 then (if x2z_3 = a0_3 then (if x3z_3 = a0_4 then (if x4z_3 = a0_5 then (if (x5z_3.length : Int) = (l0_6.length : Int) then (if (x6z_3.length : Int) = (l0_7.length : Int) then (some ((x7z_3.length : Int) == (l0_8.length : Int))) else (some false)) else (some false)) else (some false)) else (some false)) else (some false)) else (some false)) else (some false)) else (some false)) = some r := H
          have A74 := am_ A740
          clear A740
          by_cases c75 : t271 = true
          ·as_aux_lemma =>
            subst c75
            have H1 : (if x0z_3 = a0_1 then (if x1z_3 = a0_2 then (if x2z_3 = a0_3 then (if x3z_3 = a0_4 then (if x4z_3 = a0_5 then (if (x5z_3.length : Int) = (l0_6.length : Int) then (if (x6z_3.length : Int) = (l0_7.length : Int) then (some ((x7z_3.length : Int) == (l0_8.length : Int))) else (some false)) else (some false)) else (some false)) else (some false)) else (some false)) else (some false)) else (some false)) = some r := by rw [if_pos rfl] at H; exact H
            clear H
            have H := H1
            clear H1
            by_cases c76 : x0z_3 = a0_1
            ·as_aux_lemma =>
              rw [if_pos c76] at H
              have c76b0 : (x0z_3 == a0_1) = true := beq_iff_eq.mpr c76
              have c76b1 : (x0z_3 != a0_1) = false := bne_eq_false_iff_eq.mpr c76
              clear c76
              by_cases c77 : x1z_3 = a0_2
              ·as_aux_lemma =>
                rw [if_pos c77] at H
                have c77b0 : (x1z_3 == a0_2) = true := beq_iff_eq.mpr c77
                have c77b1 : (x1z_3 != a0_2) = false := bne_eq_false_iff_eq.mpr c77
                clear c77
                by_cases c78 : x2z_3 = a0_3
                ·as_aux_lemma =>
                  rw [if_pos c78] at H
                  have c78b0 : (x2z_3 == a0_3) = true := beq_iff_eq.mpr c78
                  have c78b1 : (x2z_3 != a0_3) = false := bne_eq_false_iff_eq.mpr c78
                  clear c78
                  by_cases c79 : x3z_3 = a0_4
                  ·as_aux_lemma =>
                    rw [if_pos c79] at H
                    have c79b0 : (x3z_3 == a0_4) = true := beq_iff_eq.mpr c79
                    have c79b1 : (x3z_3 != a0_4) = false := bne_eq_false_iff_eq.mpr c79
                    clear c79
                    by_cases c80 : x4z_3 = a0_5
                    ·as_aux_lemma =>
                      rw [if_pos c80] at H
                      have c80b0 : (x4z_3 == a0_5) = true := beq_iff_eq.mpr c80
                      have c80b1 : (x4z_3 != a0_5) = false := bne_eq_false_iff_eq.mpr c80
                      clear c80
                      by_cases c81 : (x5z_3.length : Int) = (l0_6.length : Int)
                      ·as_aux_lemma =>
                        rw [if_pos c81] at H
                        have c81b0 : ((x5z_3.length : Int) == (l0_6.length : Int)) = true := beq_iff_eq.mpr c81
                        have c81b1 : ((x5z_3.length : Int) != (l0_6.length : Int)) = false := bne_eq_false_iff_eq.mpr c81
                        have c81b2 : (x5z_3.length == l0_6.length) = true := by first | simpa using c81 | (simp at c81 ⊢; omega)
                        clear c81
                        by_cases c82 : (x6z_3.length : Int) = (l0_7.length : Int)
                        ·rw [if_pos c82] at H
                         have c82b0 : ((x6z_3.length : Int) == (l0_7.length : Int)) = true := beq_iff_eq.mpr c82
                         have c82b1 : ((x6z_3.length : Int) != (l0_7.length : Int)) = false := bne_eq_false_iff_eq.mpr c82
                         have c82b2 : (x6z_3.length == l0_7.length) = true := by first | simpa using c82 | (simp at c82 ⊢; omega)
                         clear c82
                         obtain rfl := Option.some.inj H
                         have hnb83 := NB262_263.out
                         have hnc83 := NB263_262.out
                         obtain ⟨hcz84_0, hcz84_1, hcz84_2, hcz84_3, hcz84_4, hcz84_5, hcz84_6, hcz84_7, hcz84_8, -, hfz84_1, hfz84_2, hfz84_3, hfz84_4, hfz84_5, hfz84_6, hfz84_7, hfz84_8⟩ := cn BK262
                         go_wp2_with (first | (go_at_call 60; (with_reducible refine (code_word.calls a0_2 true _ A70.out).mono ?_); rintro e w' ⟨rfl, ⟨nd, rfl⟩⟩) | (go_at_call 60; (with_reducible refine (code_word.calls a0_3 true _ A72.out).mono ?_); rintro e w' ⟨rfl, ⟨nd, rfl⟩⟩) | (go_at_call 60; (with_reducible refine (code_word.calls a0_4 true _ A74.out).mono ?_); rintro e w' ⟨rfl, ⟨nd, rfl⟩⟩; have hcz85_0 : wc.cell? ⟨gb263, 0, none⟩ = some (.int .i64 a0_0) := (bc BK263 0); have hcz85_1 : wc.cell? ⟨gb263, 1, none⟩ = some (.int .i64 x0z_3) := (bc BK263 1); have hcz85_2 : wc.cell? ⟨gb263, 2, none⟩ = some (.int .i64 x1z_3) := (bc BK263 2); have hcz85_3 : wc.cell? ⟨gb263, 3, none⟩ = some (.int .i64 x2z_3) := (bc BK263 3); have hcz85_4 : wc.cell? ⟨gb263, 4, none⟩ = some (.int .i64 x3z_3) := (bc BK263 4); have hcz85_5 : wc.cell? ⟨gb263, 5, none⟩ = some (.int .i64 x4z_3) := (bc BK263 5); have hcz85_6 : wc.cell? ⟨gb263, 6, none⟩ = some (.slice Aq264006_3 x5z_3.length cq264006_3) := (bc BK263 6); have hcz85_7 : wc.cell? ⟨gb263, 7, none⟩ = some (.slice Aq264007_3 x6z_3.length cq264007_3) := (bc BK263 7); have hcz85_8 : wc.cell? ⟨gb263, 8, none⟩ = some (.slice Aq264008_3 x7z_3.length cq264008_3) := (bc BK263 8); have hfz85_1 := blk_frozen BK263.out 1; have hfz85_2 := blk_frozen BK263.out 2; have hfz85_3 := blk_frozen BK263.out 3; have hfz85_4 := blk_frozen BK263.out 4; have hfz85_5 := blk_frozen BK263.out 5; have hfz85_6 := blk_frozen BK263.out 6; have hfz85_7 := blk_frozen BK263.out 7; have hfz85_8 := blk_frozen BK263.out 8))
                         go_ret
                         exact ⟨by first | rfl | (simp [errW_none, errW_some] <;> rfl) | (simp [*, errW_none, errW_some] <;> rfl), by repeat (first | (with_reducible first | exact HB.out | apply below_alloc | apply pw_below_drewN | apply below_drew1 | refine below_set ?_ GE262.out | refine below_set ?_ GE263.out) | exact HB.out)⟩
                        ·rw [if_neg c82] at H
                         have c82b0 : ((x6z_3.length : Int) == (l0_7.length : Int)) = false := beq_eq_false_iff_ne.mpr c82
                         have c82b1 : ((x6z_3.length : Int) != (l0_7.length : Int)) = true := bne_iff_ne.mpr c82
                         have c82b2 : (x6z_3.length == l0_7.length) = false := by first | simpa using c82 | (simp at c82 ⊢; omega)
                         obtain rfl := Option.some.inj H
                         have hnb86 := NB262_263.out
                         have hnc86 := NB263_262.out
                         obtain ⟨hcz87_0, hcz87_1, hcz87_2, hcz87_3, hcz87_4, hcz87_5, hcz87_6, hcz87_7, hcz87_8, -, hfz87_1, hfz87_2, hfz87_3, hfz87_4, hfz87_5, hfz87_6, hfz87_7, hfz87_8⟩ := cn BK262
                         go_wp2_with (first | (go_at_call 60; (with_reducible refine (code_word.calls a0_2 true _ A70.out).mono ?_); rintro e w' ⟨rfl, ⟨nd, rfl⟩⟩) | (go_at_call 60; (with_reducible refine (code_word.calls a0_3 true _ A72.out).mono ?_); rintro e w' ⟨rfl, ⟨nd, rfl⟩⟩) | (go_at_call 60; (with_reducible refine (code_word.calls a0_4 true _ A74.out).mono ?_); rintro e w' ⟨rfl, ⟨nd, rfl⟩⟩; have hcz88_0 : wc.cell? ⟨gb263, 0, none⟩ = some (.int .i64 a0_0) := (bc BK263 0); have hcz88_1 : wc.cell? ⟨gb263, 1, none⟩ = some (.int .i64 x0z_3) := (bc BK263 1); have hcz88_2 : wc.cell? ⟨gb263, 2, none⟩ = some (.int .i64 x1z_3) := (bc BK263 2); have hcz88_3 : wc.cell? ⟨gb263, 3, none⟩ = some (.int .i64 x2z_3) := (bc BK263 3); have hcz88_4 : wc.cell? ⟨gb263, 4, none⟩ = some (.int .i64 x3z_3) := (bc BK263 4); have hcz88_5 : wc.cell? ⟨gb263, 5, none⟩ = some (.int .i64 x4z_3) := (bc BK263 5); have hcz88_6 : wc.cell? ⟨gb263, 6, none⟩ = some (.slice Aq264006_3 x5z_3.length cq264006_3) := (bc BK263 6); have hcz88_7 : wc.cell? ⟨gb263, 7, none⟩ = some (.slice Aq264007_3 x6z_3.length cq264007_3) := (bc BK263 7); have hcz88_8 : wc.cell? ⟨gb263, 8, none⟩ = some (.slice Aq264008_3 x7z_3.length cq264008_3) := (bc BK263 8); have hfz88_1 := blk_frozen BK263.out 1; have hfz88_2 := blk_frozen BK263.out 2; have hfz88_3 := blk_frozen BK263.out 3; have hfz88_4 := blk_frozen BK263.out 4; have hfz88_5 := blk_frozen BK263.out 5; have hfz88_6 := blk_frozen BK263.out 6; have hfz88_7 := blk_frozen BK263.out 7; have hfz88_8 := blk_frozen BK263.out 8))
                         go_ret
                         exact ⟨by first | rfl | (simp [errW_none, errW_some] <;> rfl) | (simp [*, errW_none, errW_some] <;> rfl), by repeat (first | (with_reducible first | exact HB.out | apply below_alloc | apply pw_below_drewN | apply below_drew1 | refine below_set ?_ GE262.out | refine below_set ?_ GE263.out) | exact HB.out)⟩
                      ·rw [if_neg c81] at H
                       have c81b0 : ((x5z_3.length : Int) == (l0_6.length : Int)) = false := beq_eq_false_iff_ne.mpr c81
                       have c81b1 : ((x5z_3.length : Int) != (l0_6.length : Int)) = true := bne_iff_ne.mpr c81
                       have c81b2 : (x5z_3.length == l0_6.length) = false := by first | simpa using c81 | (simp at c81 ⊢; omega)
                       obtain rfl := Option.some.inj H
                       have hnb89 := NB262_263.out
                       have hnc89 := NB263_262.out
                       obtain ⟨hcz90_0, hcz90_1, hcz90_2, hcz90_3, hcz90_4, hcz90_5, hcz90_6, hcz90_7, hcz90_8, -, hfz90_1, hfz90_2, hfz90_3, hfz90_4, hfz90_5, hfz90_6, hfz90_7, hfz90_8⟩ := cn BK262
                       go_wp2_with (first | (go_at_call 60; (with_reducible refine (code_word.calls a0_2 true _ A70.out).mono ?_); rintro e w' ⟨rfl, ⟨nd, rfl⟩⟩) | (go_at_call 60; (with_reducible refine (code_word.calls a0_3 true _ A72.out).mono ?_); rintro e w' ⟨rfl, ⟨nd, rfl⟩⟩) | (go_at_call 60; (with_reducible refine (code_word.calls a0_4 true _ A74.out).mono ?_); rintro e w' ⟨rfl, ⟨nd, rfl⟩⟩; have hcz91_0 : wc.cell? ⟨gb263, 0, none⟩ = some (.int .i64 a0_0) := (bc BK263 0); have hcz91_1 : wc.cell? ⟨gb263, 1, none⟩ = some (.int .i64 x0z_3) := (bc BK263 1); have hcz91_2 : wc.cell? ⟨gb263, 2, none⟩ = some (.int .i64 x1z_3) := (bc BK263 2); have hcz91_3 : wc.cell? ⟨gb263, 3, none⟩ = some (.int .i64 x2z_3) := (bc BK263 3); have hcz91_4 : wc.cell? ⟨gb263, 4, none⟩ = some (.int .i64 x3z_3) := (bc BK263 4); have hcz91_5 : wc.cell? ⟨gb263, 5, none⟩ = some (.int .i64 x4z_3) := (bc BK263 5); have hcz91_6 : wc.cell? ⟨gb263, 6, none⟩ = some (.slice Aq264006_3 x5z_3.length cq264006_3) := (bc BK263 6); have hcz91_7 : wc.cell? ⟨gb263, 7, none⟩ = some (.slice Aq264007_3 x6z_3.length cq264007_3) := (bc BK263 7); have hcz91_8 : wc.cell? ⟨gb263, 8, none⟩ = some (.slice Aq264008_3 x7z_3.length cq264008_3) := (bc BK263 8); have hfz91_1 := blk_frozen BK263.out 1; have hfz91_2 := blk_frozen BK263.out 2; have hfz91_3 := blk_frozen BK263.out 3; have hfz91_4 := blk_frozen BK263.out 4; have hfz91_5 := blk_frozen BK263.out 5; have hfz91_6 := blk_frozen BK263.out 6; have hfz91_7 := blk_frozen BK263.out 7; have hfz91_8 := blk_frozen BK263.out 8))
                       go_ret
                       exact ⟨by first | rfl | (simp [errW_none, errW_some] <;> rfl) | (simp [*, errW_none, errW_some] <;> rfl), by repeat (first | (with_reducible first | exact HB.out | apply below_alloc | apply pw_below_drewN | apply below_drew1 | refine below_set ?_ GE262.out | refine below_set ?_ GE263.out) | exact HB.out)⟩
                    ·rw [if_neg c80] at H
                     have c80b0 : (x4z_3 == a0_5) = false := beq_eq_false_iff_ne.mpr c80
                     have c80b1 : (x4z_3 != a0_5) = true := bne_iff_ne.mpr c80
                     obtain rfl := Option.some.inj H
                     have hnb92 := NB262_263.out
                     have hnc92 := NB263_262.out
                     obtain ⟨hcz93_0, hcz93_1, hcz93_2, hcz93_3, hcz93_4, hcz93_5, hcz93_6, hcz93_7, hcz93_8, -, hfz93_1, hfz93_2, hfz93_3, hfz93_4, hfz93_5, hfz93_6, hfz93_7, hfz93_8⟩ := cn BK262
                     go_wp2_with (first | (go_at_call 60; (with_reducible refine (code_word.calls a0_2 true _ A70.out).mono ?_); rintro e w' ⟨rfl, ⟨nd, rfl⟩⟩) | (go_at_call 60; (with_reducible refine (code_word.calls a0_3 true _ A72.out).mono ?_); rintro e w' ⟨rfl, ⟨nd, rfl⟩⟩) | (go_at_call 60; (with_reducible refine (code_word.calls a0_4 true _ A74.out).mono ?_); rintro e w' ⟨rfl, ⟨nd, rfl⟩⟩; have hcz94_0 : wc.cell? ⟨gb263, 0, none⟩ = some (.int .i64 a0_0) := (bc BK263 0); have hcz94_1 : wc.cell? ⟨gb263, 1, none⟩ = some (.int .i64 x0z_3) := (bc BK263 1); have hcz94_2 : wc.cell? ⟨gb263, 2, none⟩ = some (.int .i64 x1z_3) := (bc BK263 2); have hcz94_3 : wc.cell? ⟨gb263, 3, none⟩ = some (.int .i64 x2z_3) := (bc BK263 3); have hcz94_4 : wc.cell? ⟨gb263, 4, none⟩ = some (.int .i64 x3z_3) := (bc BK263 4); have hcz94_5 : wc.cell? ⟨gb263, 5, none⟩ = some (.int .i64 x4z_3) := (bc BK263 5); have hcz94_6 : wc.cell? ⟨gb263, 6, none⟩ = some (.slice Aq264006_3 x5z_3.length cq264006_3) := (bc BK263 6); have hcz94_7 : wc.cell? ⟨gb263, 7, none⟩ = some (.slice Aq264007_3 x6z_3.length cq264007_3) := (bc BK263 7); have hcz94_8 : wc.cell? ⟨gb263, 8, none⟩ = some (.slice Aq264008_3 x7z_3.length cq264008_3) := (bc BK263 8); have hfz94_1 := blk_frozen BK263.out 1; have hfz94_2 := blk_frozen BK263.out 2; have hfz94_3 := blk_frozen BK263.out 3; have hfz94_4 := blk_frozen BK263.out 4; have hfz94_5 := blk_frozen BK263.out 5; have hfz94_6 := blk_frozen BK263.out 6; have hfz94_7 := blk_frozen BK263.out 7; have hfz94_8 := blk_frozen BK263.out 8))
                     go_ret
                     exact ⟨by first | rfl | (simp [errW_none, errW_some] <;> rfl) | (simp [*, errW_none, errW_some] <;> rfl), by repeat (first | (with_reducible first | exact HB.out | apply below_alloc | apply pw_below_drewN | apply below_drew1 | refine below_set ?_ GE262.out | refine below_set ?_ GE263.out) | exact HB.out)⟩
                  ·rw [if_neg c79] at H
                   have c79b0 : (x3z_3 == a0_4) = false := beq_eq_false_iff_ne.mpr c79
                   have c79b1 : (x3z_3 != a0_4) = true := bne_iff_ne.mpr c79
                   obtain rfl := Option.some.inj H
                   have hnb95 := NB262_263.out
                   have hnc95 := NB263_262.out
                   obtain ⟨hcz96_0, hcz96_1, hcz96_2, hcz96_3, hcz96_4, hcz96_5, hcz96_6, hcz96_7, hcz96_8, -, hfz96_1, hfz96_2, hfz96_3, hfz96_4, hfz96_5, hfz96_6, hfz96_7, hfz96_8⟩ := cn BK262
                   go_wp2_with (first | (go_at_call 60; (with_reducible refine (code_word.calls a0_2 true _ A70.out).mono ?_); rintro e w' ⟨rfl, ⟨nd, rfl⟩⟩) | (go_at_call 60; (with_reducible refine (code_word.calls a0_3 true _ A72.out).mono ?_); rintro e w' ⟨rfl, ⟨nd, rfl⟩⟩) | (go_at_call 60; (with_reducible refine (code_word.calls a0_4 true _ A74.out).mono ?_); rintro e w' ⟨rfl, ⟨nd, rfl⟩⟩; have hcz97_0 : wc.cell? ⟨gb263, 0, none⟩ = some (.int .i64 a0_0) := (bc BK263 0); have hcz97_1 : wc.cell? ⟨gb263, 1, none⟩ = some (.int .i64 x0z_3) := (bc BK263 1); have hcz97_2 : wc.cell? ⟨gb263, 2, none⟩ = some (.int .i64 x1z_3) := (bc BK263 2); have hcz97_3 : wc.cell? ⟨gb263, 3, none⟩ = some (.int .i64 x2z_3) := (bc BK263 3); have hcz97_4 : wc.cell? ⟨gb263, 4, none⟩ = some (.int .i64 x3z_3) := (bc BK263 4); have hcz97_5 : wc.cell? ⟨gb263, 5, none⟩ = some (.int .i64 x4z_3) := (bc BK263 5); have hcz97_6 : wc.cell? ⟨gb263, 6, none⟩ = some (.slice Aq264006_3 x5z_3.length cq264006_3) := (bc BK263 6); have hcz97_7 : wc.cell? ⟨gb263, 7, none⟩ = some (.slice Aq264007_3 x6z_3.length cq264007_3) := (bc BK263 7); have hcz97_8 : wc.cell? ⟨gb263, 8, none⟩ = some (.slice Aq264008_3 x7z_3.length cq264008_3) := (bc BK263 8); have hfz97_1 := blk_frozen BK263.out 1; have hfz97_2 := blk_frozen BK263.out 2; have hfz97_3 := blk_frozen BK263.out 3; have hfz97_4 := blk_frozen BK263.out 4; have hfz97_5 := blk_frozen BK263.out 5; have hfz97_6 := blk_frozen BK263.out 6; have hfz97_7 := blk_frozen BK263.out 7; have hfz97_8 := blk_frozen BK263.out 8))
                   go_ret
                   exact ⟨by first | rfl | (simp [errW_none, errW_some] <;> rfl) | (simp [*, errW_none, errW_some] <;> rfl), by repeat (first | (with_reducible first | exact HB.out | apply below_alloc | apply pw_below_drewN | apply below_drew1 | refine below_set ?_ GE262.out | refine below_set ?_ GE263.out) | exact HB.out)⟩
                ·rw [if_neg c78] at H
                 have c78b0 : (x2z_3 == a0_3) = false := beq_eq_false_iff_ne.mpr c78
                 have c78b1 : (x2z_3 != a0_3) = true := bne_iff_ne.mpr c78
                 obtain rfl := Option.some.inj H
                 have hnb98 := NB262_263.out
                 have hnc98 := NB263_262.out
                 obtain ⟨hcz99_0, hcz99_1, hcz99_2, hcz99_3, hcz99_4, hcz99_5, hcz99_6, hcz99_7, hcz99_8, -, hfz99_1, hfz99_2, hfz99_3, hfz99_4, hfz99_5, hfz99_6, hfz99_7, hfz99_8⟩ := cn BK262
                 go_wp2_with (first | (go_at_call 60; (with_reducible refine (code_word.calls a0_2 true _ A70.out).mono ?_); rintro e w' ⟨rfl, ⟨nd, rfl⟩⟩) | (go_at_call 60; (with_reducible refine (code_word.calls a0_3 true _ A72.out).mono ?_); rintro e w' ⟨rfl, ⟨nd, rfl⟩⟩) | (go_at_call 60; (with_reducible refine (code_word.calls a0_4 true _ A74.out).mono ?_); rintro e w' ⟨rfl, ⟨nd, rfl⟩⟩; have hcz100_0 : wc.cell? ⟨gb263, 0, none⟩ = some (.int .i64 a0_0) := (bc BK263 0); have hcz100_1 : wc.cell? ⟨gb263, 1, none⟩ = some (.int .i64 x0z_3) := (bc BK263 1); have hcz100_2 : wc.cell? ⟨gb263, 2, none⟩ = some (.int .i64 x1z_3) := (bc BK263 2); have hcz100_3 : wc.cell? ⟨gb263, 3, none⟩ = some (.int .i64 x2z_3) := (bc BK263 3); have hcz100_4 : wc.cell? ⟨gb263, 4, none⟩ = some (.int .i64 x3z_3) := (bc BK263 4); have hcz100_5 : wc.cell? ⟨gb263, 5, none⟩ = some (.int .i64 x4z_3) := (bc BK263 5); have hcz100_6 : wc.cell? ⟨gb263, 6, none⟩ = some (.slice Aq264006_3 x5z_3.length cq264006_3) := (bc BK263 6); have hcz100_7 : wc.cell? ⟨gb263, 7, none⟩ = some (.slice Aq264007_3 x6z_3.length cq264007_3) := (bc BK263 7); have hcz100_8 : wc.cell? ⟨gb263, 8, none⟩ = some (.slice Aq264008_3 x7z_3.length cq264008_3) := (bc BK263 8); have hfz100_1 := blk_frozen BK263.out 1; have hfz100_2 := blk_frozen BK263.out 2; have hfz100_3 := blk_frozen BK263.out 3; have hfz100_4 := blk_frozen BK263.out 4; have hfz100_5 := blk_frozen BK263.out 5; have hfz100_6 := blk_frozen BK263.out 6; have hfz100_7 := blk_frozen BK263.out 7; have hfz100_8 := blk_frozen BK263.out 8))
                 go_ret
                 exact ⟨by first | rfl | (simp [errW_none, errW_some] <;> rfl) | (simp [*, errW_none, errW_some] <;> rfl), by repeat (first | (with_reducible first | exact HB.out | apply below_alloc | apply pw_below_drewN | apply below_drew1 | refine below_set ?_ GE262.out | refine below_set ?_ GE263.out) | exact HB.out)⟩
              ·rw [if_neg c77] at H
               have c77b0 : (x1z_3 == a0_2) = false := beq_eq_false_iff_ne.mpr c77
               have c77b1 : (x1z_3 != a0_2) = true := bne_iff_ne.mpr c77
               obtain rfl := Option.some.inj H
               have hnb101 := NB262_263.out
               have hnc101 := NB263_262.out
               obtain ⟨hcz102_0, hcz102_1, hcz102_2, hcz102_3, hcz102_4, hcz102_5, hcz102_6, hcz102_7, hcz102_8, -, hfz102_1, hfz102_2, hfz102_3, hfz102_4, hfz102_5, hfz102_6, hfz102_7, hfz102_8⟩ := cn BK262
               go_wp2_with (first | (go_at_call 60; (with_reducible refine (code_word.calls a0_2 true _ A70.out).mono ?_); rintro e w' ⟨rfl, ⟨nd, rfl⟩⟩) | (go_at_call 60; (with_reducible refine (code_word.calls a0_3 true _ A72.out).mono ?_); rintro e w' ⟨rfl, ⟨nd, rfl⟩⟩) | (go_at_call 60; (with_reducible refine (code_word.calls a0_4 true _ A74.out).mono ?_); rintro e w' ⟨rfl, ⟨nd, rfl⟩⟩; have hcz103_0 : wc.cell? ⟨gb263, 0, none⟩ = some (.int .i64 a0_0) := (bc BK263 0); have hcz103_1 : wc.cell? ⟨gb263, 1, none⟩ = some (.int .i64 x0z_3) := (bc BK263 1); have hcz103_2 : wc.cell? ⟨gb263, 2, none⟩ = some (.int .i64 x1z_3) := (bc BK263 2); have hcz103_3 : wc.cell? ⟨gb263, 3, none⟩ = some (.int .i64 x2z_3) := (bc BK263 3); have hcz103_4 : wc.cell? ⟨gb263, 4, none⟩ = some (.int .i64 x3z_3) := (bc BK263 4); have hcz103_5 : wc.cell? ⟨gb263, 5, none⟩ = some (.int .i64 x4z_3) := (bc BK263 5); have hcz103_6 : wc.cell? ⟨gb263, 6, none⟩ = some (.slice Aq264006_3 x5z_3.length cq264006_3) := (bc BK263 6); have hcz103_7 : wc.cell? ⟨gb263, 7, none⟩ = some (.slice Aq264007_3 x6z_3.length cq264007_3) := (bc BK263 7); have hcz103_8 : wc.cell? ⟨gb263, 8, none⟩ = some (.slice Aq264008_3 x7z_3.length cq264008_3) := (bc BK263 8); have hfz103_1 := blk_frozen BK263.out 1; have hfz103_2 := blk_frozen BK263.out 2; have hfz103_3 := blk_frozen BK263.out 3; have hfz103_4 := blk_frozen BK263.out 4; have hfz103_5 := blk_frozen BK263.out 5; have hfz103_6 := blk_frozen BK263.out 6; have hfz103_7 := blk_frozen BK263.out 7; have hfz103_8 := blk_frozen BK263.out 8))
               go_ret
               exact ⟨by first | rfl | (simp [errW_none, errW_some] <;> rfl) | (simp [*, errW_none, errW_some] <;> rfl), by repeat (first | (with_reducible first | exact HB.out | apply below_alloc | apply pw_below_drewN | apply below_drew1 | refine below_set ?_ GE262.out | refine below_set ?_ GE263.out) | exact HB.out)⟩
            ·rw [if_neg c76] at H
             have c76b0 : (x0z_3 == a0_1) = false := beq_eq_false_iff_ne.mpr c76
             have c76b1 : (x0z_3 != a0_1) = true := bne_iff_ne.mpr c76
             obtain rfl := Option.some.inj H
             have hnb104 := NB262_263.out
             have hnc104 := NB263_262.out
             obtain ⟨hcz105_0, hcz105_1, hcz105_2, hcz105_3, hcz105_4, hcz105_5, hcz105_6, hcz105_7, hcz105_8, -, hfz105_1, hfz105_2, hfz105_3, hfz105_4, hfz105_5, hfz105_6, hfz105_7, hfz105_8⟩ := cn BK262
             go_wp2_with (first | (go_at_call 60; (with_reducible refine (code_word.calls a0_2 true _ A70.out).mono ?_); rintro e w' ⟨rfl, ⟨nd, rfl⟩⟩) | (go_at_call 60; (with_reducible refine (code_word.calls a0_3 true _ A72.out).mono ?_); rintro e w' ⟨rfl, ⟨nd, rfl⟩⟩) | (go_at_call 60; (with_reducible refine (code_word.calls a0_4 true _ A74.out).mono ?_); rintro e w' ⟨rfl, ⟨nd, rfl⟩⟩; have hcz106_0 : wc.cell? ⟨gb263, 0, none⟩ = some (.int .i64 a0_0) := (bc BK263 0); have hcz106_1 : wc.cell? ⟨gb263, 1, none⟩ = some (.int .i64 x0z_3) := (bc BK263 1); have hcz106_2 : wc.cell? ⟨gb263, 2, none⟩ = some (.int .i64 x1z_3) := (bc BK263 2); have hcz106_3 : wc.cell? ⟨gb263, 3, none⟩ = some (.int .i64 x2z_3) := (bc BK263 3); have hcz106_4 : wc.cell? ⟨gb263, 4, none⟩ = some (.int .i64 x3z_3) := (bc BK263 4); have hcz106_5 : wc.cell? ⟨gb263, 5, none⟩ = some (.int .i64 x4z_3) := (bc BK263 5); have hcz106_6 : wc.cell? ⟨gb263, 6, none⟩ = some (.slice Aq264006_3 x5z_3.length cq264006_3) := (bc BK263 6); have hcz106_7 : wc.cell? ⟨gb263, 7, none⟩ = some (.slice Aq264007_3 x6z_3.length cq264007_3) := (bc BK263 7); have hcz106_8 : wc.cell? ⟨gb263, 8, none⟩ = some (.slice Aq264008_3 x7z_3.length cq264008_3) := (bc BK263 8); have hfz106_1 := blk_frozen BK263.out 1; have hfz106_2 := blk_frozen BK263.out 2; have hfz106_3 := blk_frozen BK263.out 3; have hfz106_4 := blk_frozen BK263.out 4; have hfz106_5 := blk_frozen BK263.out 5; have hfz106_6 := blk_frozen BK263.out 6; have hfz106_7 := blk_frozen BK263.out 7; have hfz106_8 := blk_frozen BK263.out 8))
             go_ret
             exact ⟨by first | rfl | (simp [errW_none, errW_some] <;> rfl) | (simp [*, errW_none, errW_some] <;> rfl), by repeat (first | (with_reducible first | exact HB.out | apply below_alloc | apply pw_below_drewN | apply below_drew1 | refine below_set ?_ GE262.out | refine below_set ?_ GE263.out) | exact HB.out)⟩
          ·replace c75 := Bool.eq_false_iff.mpr c75
           subst c75
           have H1 : (some false) = some r := by rw [if_neg (show ¬ (false = true) by decide)] at H; exact H
           clear H
           have H := H1
           clear H1
           obtain rfl := Option.some.inj H
           have hnb107 := NB262_263.out
           have hnc107 := NB263_262.out
           obtain ⟨hcz108_0, hcz108_1, hcz108_2, hcz108_3, hcz108_4, hcz108_5, hcz108_6, hcz108_7, hcz108_8, -, hfz108_1, hfz108_2, hfz108_3, hfz108_4, hfz108_5, hfz108_6, hfz108_7, hfz108_8⟩ := cn BK262
           go_wp2_with (first | (go_at_call 60; (with_reducible refine (code_word.calls a0_2 true _ A70.out).mono ?_); rintro e w' ⟨rfl, ⟨nd, rfl⟩⟩) | (go_at_call 60; (with_reducible refine (code_word.calls a0_3 true _ A72.out).mono ?_); rintro e w' ⟨rfl, ⟨nd, rfl⟩⟩) | (go_at_call 60; (with_reducible refine (code_word.calls a0_4 false _ A74.out).mono ?_); rintro e w' ⟨rfl, ⟨nd, rfl⟩⟩))
           go_ret
           exact ⟨by first | rfl | (simp [errW_none, errW_some] <;> rfl) | (simp [*, errW_none, errW_some] <;> rfl), by repeat (first | (with_reducible first | exact HB.out | apply below_alloc | apply pw_below_drewN | apply below_drew1 | refine below_set ?_ GE262.out | refine below_set ?_ GE263.out) | exact HB.out)⟩
        ·replace c73 := Bool.eq_false_iff.mpr c73
         subst c73
         have H1 : (some false) = some r := by rw [if_neg (show ¬ (false = true) by decide)] at H; exact H
         clear H
         have H := H1
         clear H1
         obtain rfl := Option.some.inj H
         have hnb109 := NB262_263.out
         have hnc109 := NB263_262.out
         obtain ⟨hcz110_0, hcz110_1, hcz110_2, hcz110_3, hcz110_4, hcz110_5, hcz110_6, hcz110_7, hcz110_8, -, hfz110_1, hfz110_2, hfz110_3, hfz110_4, hfz110_5, hfz110_6, hfz110_7, hfz110_8⟩ := cn BK262
         go_wp2_with (first | (go_at_call 60; (with_reducible refine (code_word.calls a0_2 true _ A70.out).mono ?_); rintro e w' ⟨rfl, ⟨nd, rfl⟩⟩) | (go_at_call 60; (with_reducible refine (code_word.calls a0_3 false _ A72.out).mono ?_); rintro e w' ⟨rfl, ⟨nd, rfl⟩⟩))
         go_ret
         exact ⟨by first | rfl | (simp [errW_none, errW_some] <;> rfl) | (simp [*, errW_none, errW_some] <;> rfl), by repeat (first | (with_reducible first | exact HB.out | apply below_alloc | apply pw_below_drewN | apply below_drew1 | refine below_set ?_ GE262.out | refine below_set ?_ GE263.out) | exact HB.out)⟩
      ·replace c71 := Bool.eq_false_iff.mpr c71
       subst c71
       have H1 : (some false) = some r := by rw [if_neg (show ¬ (false = true) by decide)] at H; exact H
       clear H
       have H := H1
       clear H1
       obtain rfl := Option.some.inj H
       have hnb111 := NB262_263.out
       have hnc111 := NB263_262.out
       obtain ⟨hcz112_0, hcz112_1, hcz112_2, hcz112_3, hcz112_4, hcz112_5, hcz112_6, hcz112_7, hcz112_8, -, hfz112_1, hfz112_2, hfz112_3, hfz112_4, hfz112_5, hfz112_6, hfz112_7, hfz112_8⟩ := cn BK262
       go_wp2_with (first | (go_at_call 60; (with_reducible refine (code_word.calls a0_2 false _ A70.out).mono ?_); rintro e w' ⟨rfl, ⟨nd, rfl⟩⟩))
       go_ret
       exact ⟨by first | rfl | (simp [errW_none, errW_some] <;> rfl) | (simp [*, errW_none, errW_some] <;> rfl), by repeat (first | (with_reducible first | exact HB.out | apply below_alloc | apply pw_below_drewN | apply below_drew1 | refine below_set ?_ GE262.out | refine below_set ?_ GE263.out) | exact HB.out)⟩
    ·replace c69 := Bool.eq_false_iff.mpr c69
     subst c69
     have H1 : (some false) = some r := by rw [if_neg (show ¬ (false = true) by decide)] at H; exact H
     clear H
     have H := H1
     clear H1
     obtain rfl := Option.some.inj H
     go_wp2
     go_ret
     exact ⟨by first | rfl | (simp [errW_none, errW_some] <;> rfl) | (simp [*, errW_none, errW_some] <;> rfl), by repeat (first | (with_reducible first | exact HB.out | apply below_alloc | apply pw_below_drewN | apply below_drew1 | refine below_set ?_ GE262.out | refine below_set ?_ GE263.out) | exact HB.out)⟩

end Go.Proofs.Ytlahigmoljflkaa.PAll
