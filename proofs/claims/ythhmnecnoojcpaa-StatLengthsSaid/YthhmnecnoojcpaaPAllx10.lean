/- Printed by a copy of the printer that was turned for this claim: functions as plain Lean functions, with proofs that their calls come to these; or words that such proofs use. -/
import Derived.Test.YthhmnecnoojcpaaPAllx0
import Derived.Test.YthhmnecnoojcpaaPAllx2
namespace Go.Proofs.Ythhmnecnoojcpaa.PAll
open Go.RowKit Go.Proofs.YthhmnecnoojcpaaW.PrintWords Go.Proofs.YthhmnecnoojcpaaW.PrintLast Go.Proofs.YthhmnecnoojcpaaW.PrintMore
attribute [local go_sem] max2_int min2_int max_two min_two max_three min_three max_four min_four   -- for this text's walks alone
set_option linter.unusedVariables false
set_option linter.unusedSimpArgs false

/-! ### rights_set_may: function 46 -/
def rights_set_may.f (a0 : Int) : Option (Bool) := if a0 ≥ 0 then (some (decide (a0 ≤ 1073741823))) else (some false)
set_option maxHeartbeats 8000000 in
set_option maxRecDepth 100000 in
theorem rights_set_may.calls (a0 : Int) (r : Bool) (w : World) (h : rights_set_may.f a0 = some r) :
    Calls Try.prog 46 #[.int .i64 a0] w fun e w' => e = .returned (.bool r) ∧ Drawn0 w w' := by
  have H : (if a0 ≥ 0 then (some (decide (a0 ≤ 1073741823))) else (some false)) = some r := h
  clear h
  by_cases c2 : a0 ≥ 0
  · rw [if_pos c2] at H
    have c2b0 : decide (0 ≤ a0) = true := decide_eq_true c2
    clear c2
    obtain rfl := Option.some.inj H
    go_enter Try.func46, Try.ntmps46
    go_wp2
    go_ret
    exact ⟨by first | rfl | (simp; done) | (simp [*]; done), by repeat (first | exact Drawn0.refl _ | apply Drawn0.step)⟩
  · rw [if_neg c2] at H
    have c2b0 : decide (0 ≤ a0) = false := decide_eq_false c2
    clear c2
    obtain rfl := Option.some.inj H
    go_enter Try.func46, Try.ntmps46
    go_wp2
    go_ret
    exact ⟨by first | rfl | (simp; done) | (simp [*]; done), by repeat (first | exact Drawn0.refl _ | apply Drawn0.step)⟩

/-! ### rights_May: function 45 -/
def rights_May.f (a0 : Int) : Option (Bool) := (rights_set_may.f a0).bind fun t284 => (some t284)
set_option maxHeartbeats 8000000 in
set_option maxRecDepth 100000 in
theorem rights_May.calls (a0 : Int) (r : Bool) (w : World) (h : rights_May.f a0 = some r) :
    Calls Try.prog 45 #[.int .i64 a0] w fun e w' => e = .returned (.bool r) ∧ Drawn0 w w' := by
  have H : ((rights_set_may.f a0).bind fun t284 => (some t284)) = some r := h
  clear h
  replace H := Option.bind_eq_some_iff.mp H
  obtain ⟨t284, A20, H⟩ := H
  replace H : (some t284) = some r := H
  have A2 := Aside0.mk A20
  clear A20
  obtain rfl := Option.some.inj H
  go_enter Try.func45, Try.ntmps45
  go_wp2_with (first | ((with_reducible refine gate_callee (f := 46) rfl ?_); refine goesL_ (some 4) rfl rfl Try.func46 (by kernel_rfl) rfl #[.int .i64 a0] rfl (by (try simp only [List.map_toArray, List.map_cons, List.map_nil]); first | done | rfl | (simp only [List.length_drop, List.length_take]; rfl)) ?_; (with_reducible refine (rights_set_may.calls a0 t284 _ A2.out).mono ?_); rintro e w' ⟨rfl, ⟨nd, rfl⟩⟩; refine ⟨_, rfl, ?_⟩))
  go_ret
  exact ⟨by first | rfl | (simp; done) | (simp [*]; done), by repeat (first | exact Drawn0.refl _ | apply Drawn0.step)⟩

/-! ### fds_May: function 40 -/
abbrev fds_May.t : Bool := true
abbrev fds_May.f_ : Bool := false
theorem fds_May.bc {w : World} {g : Nat} {cs : Array Value} {t : TypeId} (h : Aside0 (w.heap[g]? = some (.cells cs t (0, 0)))) (i : Nat) {v : Value} (e : cs[i]? = some v := by rfl) : w.cell? ⟨g, i, none⟩ = some v := (blk_cell h.out i).trans e
theorem fds_May.bkept {W0 W W2 : World} {g : Nat} {o : Obj} {S : Nat → Prop} (_b : Aside0 (W0.heap[g]? = some o)) (h : W.heap[g]? = some o) (hk : Kept W W2 S) (hn : ¬ S g) : W2.heap[g]? = some o := blk_kept h hk hn
theorem fds_May.bbelow {W0 w w1 : World} {g : Nat} {o : Obj} (_b : Aside0 (W0.heap[g]? = some o)) (h : w.heap[g]? = some o) (hb : Below w.heap.size w w1) : w1.heap[g]? = some o := blk_below h hb
theorem fds_May.e1 {α : Type _} (xs : List α) (i : Nat) (a : α) : xs.toArray.setIfInBounds i a = (xs.set i a).toArray := by simp
theorem fds_May.e2 {α : Type _} (x a : α) (xs : List α) : (x :: xs).set 0 a = a :: xs := rfl
theorem fds_May.e3 {α : Type _} (x a : α) (xs : List α) (n : Nat) : (x :: xs).set (n + 1) a = x :: xs.set n a := rfl
def fds_May.f (a0_0 : Int) (a0_1 : Int) (a0_2 : Int) (a0_3 : Int) (a0_4 : Int) (a0_5 : Int) (a0_6 : ByteArray) : Option (Bool) := if a0_0 ≥ 1 then (if a0_0 ≤ 5 then (if a0_1 ≥ 0 then (if a0_1 < 64 then (if a0_2 ≥ 0 then (if a0_2 ≤ 4611686018427387904 then (if a0_3 ≥ 0 then (if a0_3 ≤ 31 then ((rights_May.f a0_4).bind fun t286 => (if t286 = true then ((rights_May.f a0_5).bind fun t287 => (if t287 = true then (if a0_6.toList = ([] : List UInt8) then (some true) else (some (a0_0 == 4))) else (some false))) else (some false))) else (some false)) else (some false)) else (some false)) else (some false)) else (some false)) else (some false)) else (some false)) else (some false)
theorem fds_May.aa_0 {p : Prop} (h : p := by repeat (first | (with_reducible first | exact HB.out | apply below_alloc | apply pw_below_drewN | apply below_drew1) | exact HB.out)) : p := h
theorem fds_May.am_ {p : Prop} (h : p) : Aside0 p := Aside0.mk h
theorem fds_May.bm_ {α β : Type _} {o : Option α} {f : α → Option β} {b : β} (h : o.bind f = some b) : ∃ a, o = some a ∧ f a = some b := Option.bind_eq_some_iff.mp h
set_option maxHeartbeats 8000000 in
set_option maxRecDepth 100000 in
theorem fds_May.calls (a0_0 : Int) (a0_1 : Int) (a0_2 : Int) (a0_3 : Int) (a0_4 : Int) (a0_5 : Int) (a0_6 : ByteArray) (r : Bool) (w : World) (h : fds_May.f a0_0 a0_1 a0_2 a0_3 a0_4 a0_5 a0_6 = some r) :
  Calls Try.prog 40 #[.agg #[.int .i64 a0_0, .int .i64 a0_1, .int .i64 a0_2, .int .i64 a0_3, .int .i64 a0_4, .int .i64 a0_5, .string a0_6]] w fun e w' => e = .returned (.bool r) ∧ Below w.heap.size w w' := by
 have hu28 := Try.underlying28
 have HB := am_ (Below.refl w.heap.size w)
 have H : (if a0_0 ≥ 1 then (if a0_0 ≤ 5 then (if a0_1 ≥ 0 then (if a0_1 < 64 then (if a0_2 ≥ 0 then (if a0_2 ≤ 4611686018427387904 then (if a0_3 ≥ 0 then (if a0_3 ≤ 31 then ((rights_May.f a0_4).bind fun t286 => (if t286 = true then ((rights_May.f a0_5).bind fun t287 => (if t287 = true then (if a0_6.toList = ([] : List UInt8) then (some true) else (some (a0_0 == 4))) else (some false))) else (some false))) else (some false)) else (some false)) else (some false)) else (some false)) else (some false)) else (some false)) else (some false)) else (some false)) = some r := h
 clear h
 by_cases c2 : a0_0 ≥ 1
 rotate_left
 ·rw [if_neg c2] at H
  have c2b0 : decide (1 ≤ a0_0) = false := decide_eq_false c2
  clear c2
  obtain rfl := Option.some.inj H
  go_enter Try.func40, Try.ntmps40
  go_wp2_with (first | ((with_reducible refine gate_dst (N := 1) rfl ?_); refine box_event ?hg (N := 1) ?hd (cs := #[.int .i64 a0_0, .int .i64 a0_1, .int .i64 a0_2, .int .i64 a0_3, .int .i64 a0_4, .int .i64 a0_5, .string a0_6]) (t := 28) ?hr ?_; (case hd => rfl); (case hg => rfl); (case hr => first | (go_simp; done) | (go_simp; rfl)); intro gb285 hg w37 hbox hb; have n0_ := am_ (below_step aa_0 hb); have n1_ := am_ (hbox); have n2_ := am_ ((by rw [hg]; exact (below_size aa_0) : w.heap.size ≤ gb285)); have n3_ := am_ ((by rw [hg]; exact (below_size aa_0) : w.heap.size ≤ gb285)); clear HB; have HB := n0_; have BK285 := n1_; have GW285 := n2_; have GE285 := n3_; clear n0_ n1_ n2_ n3_; clear hb hbox hg; have hcz38_0 : w37.cell? ⟨gb285, 0, none⟩ = some (.int .i64 a0_0) := (bc BK285 0); have hcz38_1 : w37.cell? ⟨gb285, 1, none⟩ = some (.int .i64 a0_1) := (bc BK285 1); have hcz38_2 : w37.cell? ⟨gb285, 2, none⟩ = some (.int .i64 a0_2) := (bc BK285 2); have hcz38_3 : w37.cell? ⟨gb285, 3, none⟩ = some (.int .i64 a0_3) := (bc BK285 3); have hcz38_4 : w37.cell? ⟨gb285, 4, none⟩ = some (.int .i64 a0_4) := (bc BK285 4); have hcz38_5 : w37.cell? ⟨gb285, 5, none⟩ = some (.int .i64 a0_5) := (bc BK285 5); have hcz38_6 : w37.cell? ⟨gb285, 6, none⟩ = some (.string a0_6) := (bc BK285 6); have hfz38_0 := blk_frozen BK285.out 0; have hfz38_1 := blk_frozen BK285.out 1; have hfz38_2 := blk_frozen BK285.out 2; have hfz38_3 := blk_frozen BK285.out 3; have hfz38_4 := blk_frozen BK285.out 4; have hfz38_5 := blk_frozen BK285.out 5; have hfz38_6 := blk_frozen BK285.out 6))
  go_ret
  exact ⟨by first | rfl | (simp [errW_none, errW_some] <;> rfl) | (simp [*, errW_none, errW_some] <;> rfl), by repeat (first | (with_reducible first | exact HB.out | apply below_alloc | apply pw_below_drewN | apply below_drew1 | refine below_set ?_ GE285.out) | exact HB.out)⟩
 rw [if_pos c2] at H
 have c2b0 : decide (1 ≤ a0_0) = true := decide_eq_true c2
 clear c2
 by_cases c3 : a0_0 ≤ 5
 rotate_left
 ·rw [if_neg c3] at H
  have c3b0 : decide (a0_0 ≤ 5) = false := decide_eq_false c3
  clear c3
  obtain rfl := Option.some.inj H
  go_enter Try.func40, Try.ntmps40
  go_wp2_with (first | ((with_reducible refine gate_dst (N := 1) rfl ?_); refine box_event ?hg (N := 1) ?hd (cs := #[.int .i64 a0_0, .int .i64 a0_1, .int .i64 a0_2, .int .i64 a0_3, .int .i64 a0_4, .int .i64 a0_5, .string a0_6]) (t := 28) ?hr ?_; (case hd => rfl); (case hg => rfl); (case hr => first | (go_simp; done) | (go_simp; rfl)); intro gb285 hg w35 hbox hb; have n0_ := am_ (below_step aa_0 hb); have n1_ := am_ (hbox); have n2_ := am_ ((by rw [hg]; exact (below_size aa_0) : w.heap.size ≤ gb285)); have n3_ := am_ ((by rw [hg]; exact (below_size aa_0) : w.heap.size ≤ gb285)); clear HB; have HB := n0_; have BK285 := n1_; have GW285 := n2_; have GE285 := n3_; clear n0_ n1_ n2_ n3_; clear hb hbox hg; have hcz36_0 : w35.cell? ⟨gb285, 0, none⟩ = some (.int .i64 a0_0) := (bc BK285 0); have hcz36_1 : w35.cell? ⟨gb285, 1, none⟩ = some (.int .i64 a0_1) := (bc BK285 1); have hcz36_2 : w35.cell? ⟨gb285, 2, none⟩ = some (.int .i64 a0_2) := (bc BK285 2); have hcz36_3 : w35.cell? ⟨gb285, 3, none⟩ = some (.int .i64 a0_3) := (bc BK285 3); have hcz36_4 : w35.cell? ⟨gb285, 4, none⟩ = some (.int .i64 a0_4) := (bc BK285 4); have hcz36_5 : w35.cell? ⟨gb285, 5, none⟩ = some (.int .i64 a0_5) := (bc BK285 5); have hcz36_6 : w35.cell? ⟨gb285, 6, none⟩ = some (.string a0_6) := (bc BK285 6); have hfz36_0 := blk_frozen BK285.out 0; have hfz36_1 := blk_frozen BK285.out 1; have hfz36_2 := blk_frozen BK285.out 2; have hfz36_3 := blk_frozen BK285.out 3; have hfz36_4 := blk_frozen BK285.out 4; have hfz36_5 := blk_frozen BK285.out 5; have hfz36_6 := blk_frozen BK285.out 6))
  go_ret
  exact ⟨by first | rfl | (simp [errW_none, errW_some] <;> rfl) | (simp [*, errW_none, errW_some] <;> rfl), by repeat (first | (with_reducible first | exact HB.out | apply below_alloc | apply pw_below_drewN | apply below_drew1 | refine below_set ?_ GE285.out) | exact HB.out)⟩
 rw [if_pos c3] at H
 have c3b0 : decide (a0_0 ≤ 5) = true := decide_eq_true c3
 clear c3
 by_cases c4 : a0_1 ≥ 0
 rotate_left
 ·rw [if_neg c4] at H
  have c4b0 : decide (0 ≤ a0_1) = false := decide_eq_false c4
  clear c4
  obtain rfl := Option.some.inj H
  go_enter Try.func40, Try.ntmps40
  go_wp2_with (first | ((with_reducible refine gate_dst (N := 1) rfl ?_); refine box_event ?hg (N := 1) ?hd (cs := #[.int .i64 a0_0, .int .i64 a0_1, .int .i64 a0_2, .int .i64 a0_3, .int .i64 a0_4, .int .i64 a0_5, .string a0_6]) (t := 28) ?hr ?_; (case hd => rfl); (case hg => rfl); (case hr => first | (go_simp; done) | (go_simp; rfl)); intro gb285 hg w33 hbox hb; have n0_ := am_ (below_step aa_0 hb); have n1_ := am_ (hbox); have n2_ := am_ ((by rw [hg]; exact (below_size aa_0) : w.heap.size ≤ gb285)); have n3_ := am_ ((by rw [hg]; exact (below_size aa_0) : w.heap.size ≤ gb285)); clear HB; have HB := n0_; have BK285 := n1_; have GW285 := n2_; have GE285 := n3_; clear n0_ n1_ n2_ n3_; clear hb hbox hg; have hcz34_0 : w33.cell? ⟨gb285, 0, none⟩ = some (.int .i64 a0_0) := (bc BK285 0); have hcz34_1 : w33.cell? ⟨gb285, 1, none⟩ = some (.int .i64 a0_1) := (bc BK285 1); have hcz34_2 : w33.cell? ⟨gb285, 2, none⟩ = some (.int .i64 a0_2) := (bc BK285 2); have hcz34_3 : w33.cell? ⟨gb285, 3, none⟩ = some (.int .i64 a0_3) := (bc BK285 3); have hcz34_4 : w33.cell? ⟨gb285, 4, none⟩ = some (.int .i64 a0_4) := (bc BK285 4); have hcz34_5 : w33.cell? ⟨gb285, 5, none⟩ = some (.int .i64 a0_5) := (bc BK285 5); have hcz34_6 : w33.cell? ⟨gb285, 6, none⟩ = some (.string a0_6) := (bc BK285 6); have hfz34_0 := blk_frozen BK285.out 0; have hfz34_1 := blk_frozen BK285.out 1; have hfz34_2 := blk_frozen BK285.out 2; have hfz34_3 := blk_frozen BK285.out 3; have hfz34_4 := blk_frozen BK285.out 4; have hfz34_5 := blk_frozen BK285.out 5; have hfz34_6 := blk_frozen BK285.out 6))
  go_ret
  exact ⟨by first | rfl | (simp [errW_none, errW_some] <;> rfl) | (simp [*, errW_none, errW_some] <;> rfl), by repeat (first | (with_reducible first | exact HB.out | apply below_alloc | apply pw_below_drewN | apply below_drew1 | refine below_set ?_ GE285.out) | exact HB.out)⟩
 rw [if_pos c4] at H
 have c4b0 : decide (0 ≤ a0_1) = true := decide_eq_true c4
 clear c4
 by_cases c5 : a0_1 < 64
 rotate_left
 ·rw [if_neg c5] at H
  have c5b0 : decide (a0_1 < 64) = false := decide_eq_false c5
  clear c5
  obtain rfl := Option.some.inj H
  go_enter Try.func40, Try.ntmps40
  go_wp2_with (first | ((with_reducible refine gate_dst (N := 1) rfl ?_); refine box_event ?hg (N := 1) ?hd (cs := #[.int .i64 a0_0, .int .i64 a0_1, .int .i64 a0_2, .int .i64 a0_3, .int .i64 a0_4, .int .i64 a0_5, .string a0_6]) (t := 28) ?hr ?_; (case hd => rfl); (case hg => rfl); (case hr => first | (go_simp; done) | (go_simp; rfl)); intro gb285 hg w31 hbox hb; have n0_ := am_ (below_step aa_0 hb); have n1_ := am_ (hbox); have n2_ := am_ ((by rw [hg]; exact (below_size aa_0) : w.heap.size ≤ gb285)); have n3_ := am_ ((by rw [hg]; exact (below_size aa_0) : w.heap.size ≤ gb285)); clear HB; have HB := n0_; have BK285 := n1_; have GW285 := n2_; have GE285 := n3_; clear n0_ n1_ n2_ n3_; clear hb hbox hg; have hcz32_0 : w31.cell? ⟨gb285, 0, none⟩ = some (.int .i64 a0_0) := (bc BK285 0); have hcz32_1 : w31.cell? ⟨gb285, 1, none⟩ = some (.int .i64 a0_1) := (bc BK285 1); have hcz32_2 : w31.cell? ⟨gb285, 2, none⟩ = some (.int .i64 a0_2) := (bc BK285 2); have hcz32_3 : w31.cell? ⟨gb285, 3, none⟩ = some (.int .i64 a0_3) := (bc BK285 3); have hcz32_4 : w31.cell? ⟨gb285, 4, none⟩ = some (.int .i64 a0_4) := (bc BK285 4); have hcz32_5 : w31.cell? ⟨gb285, 5, none⟩ = some (.int .i64 a0_5) := (bc BK285 5); have hcz32_6 : w31.cell? ⟨gb285, 6, none⟩ = some (.string a0_6) := (bc BK285 6); have hfz32_0 := blk_frozen BK285.out 0; have hfz32_1 := blk_frozen BK285.out 1; have hfz32_2 := blk_frozen BK285.out 2; have hfz32_3 := blk_frozen BK285.out 3; have hfz32_4 := blk_frozen BK285.out 4; have hfz32_5 := blk_frozen BK285.out 5; have hfz32_6 := blk_frozen BK285.out 6))
  go_ret
  exact ⟨by first | rfl | (simp [errW_none, errW_some] <;> rfl) | (simp [*, errW_none, errW_some] <;> rfl), by repeat (first | (with_reducible first | exact HB.out | apply below_alloc | apply pw_below_drewN | apply below_drew1 | refine below_set ?_ GE285.out) | exact HB.out)⟩
 rw [if_pos c5] at H
 have c5b0 : decide (a0_1 < 64) = true := decide_eq_true c5
 clear c5
 by_cases c6 : a0_2 ≥ 0
 rotate_left
 ·rw [if_neg c6] at H
  have c6b0 : decide (0 ≤ a0_2) = false := decide_eq_false c6
  clear c6
  obtain rfl := Option.some.inj H
  go_enter Try.func40, Try.ntmps40
  go_wp2_with (first | ((with_reducible refine gate_dst (N := 1) rfl ?_); refine box_event ?hg (N := 1) ?hd (cs := #[.int .i64 a0_0, .int .i64 a0_1, .int .i64 a0_2, .int .i64 a0_3, .int .i64 a0_4, .int .i64 a0_5, .string a0_6]) (t := 28) ?hr ?_; (case hd => rfl); (case hg => rfl); (case hr => first | (go_simp; done) | (go_simp; rfl)); intro gb285 hg w29 hbox hb; have n0_ := am_ (below_step aa_0 hb); have n1_ := am_ (hbox); have n2_ := am_ ((by rw [hg]; exact (below_size aa_0) : w.heap.size ≤ gb285)); have n3_ := am_ ((by rw [hg]; exact (below_size aa_0) : w.heap.size ≤ gb285)); clear HB; have HB := n0_; have BK285 := n1_; have GW285 := n2_; have GE285 := n3_; clear n0_ n1_ n2_ n3_; clear hb hbox hg; have hcz30_0 : w29.cell? ⟨gb285, 0, none⟩ = some (.int .i64 a0_0) := (bc BK285 0); have hcz30_1 : w29.cell? ⟨gb285, 1, none⟩ = some (.int .i64 a0_1) := (bc BK285 1); have hcz30_2 : w29.cell? ⟨gb285, 2, none⟩ = some (.int .i64 a0_2) := (bc BK285 2); have hcz30_3 : w29.cell? ⟨gb285, 3, none⟩ = some (.int .i64 a0_3) := (bc BK285 3); have hcz30_4 : w29.cell? ⟨gb285, 4, none⟩ = some (.int .i64 a0_4) := (bc BK285 4); have hcz30_5 : w29.cell? ⟨gb285, 5, none⟩ = some (.int .i64 a0_5) := (bc BK285 5); have hcz30_6 : w29.cell? ⟨gb285, 6, none⟩ = some (.string a0_6) := (bc BK285 6); have hfz30_0 := blk_frozen BK285.out 0; have hfz30_1 := blk_frozen BK285.out 1; have hfz30_2 := blk_frozen BK285.out 2; have hfz30_3 := blk_frozen BK285.out 3; have hfz30_4 := blk_frozen BK285.out 4; have hfz30_5 := blk_frozen BK285.out 5; have hfz30_6 := blk_frozen BK285.out 6))
  go_ret
  exact ⟨by first | rfl | (simp [errW_none, errW_some] <;> rfl) | (simp [*, errW_none, errW_some] <;> rfl), by repeat (first | (with_reducible first | exact HB.out | apply below_alloc | apply pw_below_drewN | apply below_drew1 | refine below_set ?_ GE285.out) | exact HB.out)⟩
 rw [if_pos c6] at H
 have c6b0 : decide (0 ≤ a0_2) = true := decide_eq_true c6
 clear c6
 by_cases c7 : a0_2 ≤ 4611686018427387904
 rotate_left
 ·rw [if_neg c7] at H
  have c7b0 : decide (a0_2 ≤ 4611686018427387904) = false := decide_eq_false c7
  clear c7
  obtain rfl := Option.some.inj H
  go_enter Try.func40, Try.ntmps40
  go_wp2_with (first | ((with_reducible refine gate_dst (N := 1) rfl ?_); refine box_event ?hg (N := 1) ?hd (cs := #[.int .i64 a0_0, .int .i64 a0_1, .int .i64 a0_2, .int .i64 a0_3, .int .i64 a0_4, .int .i64 a0_5, .string a0_6]) (t := 28) ?hr ?_; (case hd => rfl); (case hg => rfl); (case hr => first | (go_simp; done) | (go_simp; rfl)); intro gb285 hg w27 hbox hb; have n0_ := am_ (below_step aa_0 hb); have n1_ := am_ (hbox); have n2_ := am_ ((by rw [hg]; exact (below_size aa_0) : w.heap.size ≤ gb285)); have n3_ := am_ ((by rw [hg]; exact (below_size aa_0) : w.heap.size ≤ gb285)); clear HB; have HB := n0_; have BK285 := n1_; have GW285 := n2_; have GE285 := n3_; clear n0_ n1_ n2_ n3_; clear hb hbox hg; have hcz28_0 : w27.cell? ⟨gb285, 0, none⟩ = some (.int .i64 a0_0) := (bc BK285 0); have hcz28_1 : w27.cell? ⟨gb285, 1, none⟩ = some (.int .i64 a0_1) := (bc BK285 1); have hcz28_2 : w27.cell? ⟨gb285, 2, none⟩ = some (.int .i64 a0_2) := (bc BK285 2); have hcz28_3 : w27.cell? ⟨gb285, 3, none⟩ = some (.int .i64 a0_3) := (bc BK285 3); have hcz28_4 : w27.cell? ⟨gb285, 4, none⟩ = some (.int .i64 a0_4) := (bc BK285 4); have hcz28_5 : w27.cell? ⟨gb285, 5, none⟩ = some (.int .i64 a0_5) := (bc BK285 5); have hcz28_6 : w27.cell? ⟨gb285, 6, none⟩ = some (.string a0_6) := (bc BK285 6); have hfz28_0 := blk_frozen BK285.out 0; have hfz28_1 := blk_frozen BK285.out 1; have hfz28_2 := blk_frozen BK285.out 2; have hfz28_3 := blk_frozen BK285.out 3; have hfz28_4 := blk_frozen BK285.out 4; have hfz28_5 := blk_frozen BK285.out 5; have hfz28_6 := blk_frozen BK285.out 6))
  go_ret
  exact ⟨by first | rfl | (simp [errW_none, errW_some] <;> rfl) | (simp [*, errW_none, errW_some] <;> rfl), by repeat (first | (with_reducible first | exact HB.out | apply below_alloc | apply pw_below_drewN | apply below_drew1 | refine below_set ?_ GE285.out) | exact HB.out)⟩
 rw [if_pos c7] at H
 have c7b0 : decide (a0_2 ≤ 4611686018427387904) = true := decide_eq_true c7
 clear c7
 by_cases c8 : a0_3 ≥ 0
 rotate_left
 ·rw [if_neg c8] at H
  have c8b0 : decide (0 ≤ a0_3) = false := decide_eq_false c8
  clear c8
  obtain rfl := Option.some.inj H
  go_enter Try.func40, Try.ntmps40
  go_wp2_with (first | ((with_reducible refine gate_dst (N := 1) rfl ?_); refine box_event ?hg (N := 1) ?hd (cs := #[.int .i64 a0_0, .int .i64 a0_1, .int .i64 a0_2, .int .i64 a0_3, .int .i64 a0_4, .int .i64 a0_5, .string a0_6]) (t := 28) ?hr ?_; (case hd => rfl); (case hg => rfl); (case hr => first | (go_simp; done) | (go_simp; rfl)); intro gb285 hg w25 hbox hb; have n0_ := am_ (below_step aa_0 hb); have n1_ := am_ (hbox); have n2_ := am_ ((by rw [hg]; exact (below_size aa_0) : w.heap.size ≤ gb285)); have n3_ := am_ ((by rw [hg]; exact (below_size aa_0) : w.heap.size ≤ gb285)); clear HB; have HB := n0_; have BK285 := n1_; have GW285 := n2_; have GE285 := n3_; clear n0_ n1_ n2_ n3_; clear hb hbox hg; have hcz26_0 : w25.cell? ⟨gb285, 0, none⟩ = some (.int .i64 a0_0) := (bc BK285 0); have hcz26_1 : w25.cell? ⟨gb285, 1, none⟩ = some (.int .i64 a0_1) := (bc BK285 1); have hcz26_2 : w25.cell? ⟨gb285, 2, none⟩ = some (.int .i64 a0_2) := (bc BK285 2); have hcz26_3 : w25.cell? ⟨gb285, 3, none⟩ = some (.int .i64 a0_3) := (bc BK285 3); have hcz26_4 : w25.cell? ⟨gb285, 4, none⟩ = some (.int .i64 a0_4) := (bc BK285 4); have hcz26_5 : w25.cell? ⟨gb285, 5, none⟩ = some (.int .i64 a0_5) := (bc BK285 5); have hcz26_6 : w25.cell? ⟨gb285, 6, none⟩ = some (.string a0_6) := (bc BK285 6); have hfz26_0 := blk_frozen BK285.out 0; have hfz26_1 := blk_frozen BK285.out 1; have hfz26_2 := blk_frozen BK285.out 2; have hfz26_3 := blk_frozen BK285.out 3; have hfz26_4 := blk_frozen BK285.out 4; have hfz26_5 := blk_frozen BK285.out 5; have hfz26_6 := blk_frozen BK285.out 6))
  go_ret
  exact ⟨by first | rfl | (simp [errW_none, errW_some] <;> rfl) | (simp [*, errW_none, errW_some] <;> rfl), by repeat (first | (with_reducible first | exact HB.out | apply below_alloc | apply pw_below_drewN | apply below_drew1 | refine below_set ?_ GE285.out) | exact HB.out)⟩
 rw [if_pos c8] at H
 have c8b0 : decide (0 ≤ a0_3) = true := decide_eq_true c8
 clear c8
 by_cases c9 : a0_3 ≤ 31
 rotate_left
 ·rw [if_neg c9] at H
  have c9b0 : decide (a0_3 ≤ 31) = false := decide_eq_false c9
  clear c9
  obtain rfl := Option.some.inj H
  go_enter Try.func40, Try.ntmps40
  go_wp2_with (first | ((with_reducible refine gate_dst (N := 1) rfl ?_); refine box_event ?hg (N := 1) ?hd (cs := #[.int .i64 a0_0, .int .i64 a0_1, .int .i64 a0_2, .int .i64 a0_3, .int .i64 a0_4, .int .i64 a0_5, .string a0_6]) (t := 28) ?hr ?_; (case hd => rfl); (case hg => rfl); (case hr => first | (go_simp; done) | (go_simp; rfl)); intro gb285 hg w23 hbox hb; have n0_ := am_ (below_step aa_0 hb); have n1_ := am_ (hbox); have n2_ := am_ ((by rw [hg]; exact (below_size aa_0) : w.heap.size ≤ gb285)); have n3_ := am_ ((by rw [hg]; exact (below_size aa_0) : w.heap.size ≤ gb285)); clear HB; have HB := n0_; have BK285 := n1_; have GW285 := n2_; have GE285 := n3_; clear n0_ n1_ n2_ n3_; clear hb hbox hg; have hcz24_0 : w23.cell? ⟨gb285, 0, none⟩ = some (.int .i64 a0_0) := (bc BK285 0); have hcz24_1 : w23.cell? ⟨gb285, 1, none⟩ = some (.int .i64 a0_1) := (bc BK285 1); have hcz24_2 : w23.cell? ⟨gb285, 2, none⟩ = some (.int .i64 a0_2) := (bc BK285 2); have hcz24_3 : w23.cell? ⟨gb285, 3, none⟩ = some (.int .i64 a0_3) := (bc BK285 3); have hcz24_4 : w23.cell? ⟨gb285, 4, none⟩ = some (.int .i64 a0_4) := (bc BK285 4); have hcz24_5 : w23.cell? ⟨gb285, 5, none⟩ = some (.int .i64 a0_5) := (bc BK285 5); have hcz24_6 : w23.cell? ⟨gb285, 6, none⟩ = some (.string a0_6) := (bc BK285 6); have hfz24_0 := blk_frozen BK285.out 0; have hfz24_1 := blk_frozen BK285.out 1; have hfz24_2 := blk_frozen BK285.out 2; have hfz24_3 := blk_frozen BK285.out 3; have hfz24_4 := blk_frozen BK285.out 4; have hfz24_5 := blk_frozen BK285.out 5; have hfz24_6 := blk_frozen BK285.out 6))
  go_ret
  exact ⟨by first | rfl | (simp [errW_none, errW_some] <;> rfl) | (simp [*, errW_none, errW_some] <;> rfl), by repeat (first | (with_reducible first | exact HB.out | apply below_alloc | apply pw_below_drewN | apply below_drew1 | refine below_set ?_ GE285.out) | exact HB.out)⟩
 rw [if_pos c9] at H
 have c9b0 : decide (a0_3 ≤ 31) = true := decide_eq_true c9
 clear c9
 replace H := bm_ H
 obtain ⟨t286, A100, H⟩ := H
 replace H : (if t286 = true then ((rights_May.f a0_5).bind fun t287 => (if t287 = true then (if a0_6.toList = ([] : List UInt8) then (some true) else (some (a0_0 == 4))) else (some false))) else (some false)) = some r := H
 have A10 := am_ A100
 clear A100
 by_cases c11 : t286 = true
 rotate_left
 ·replace c11 := Bool.eq_false_iff.mpr c11
  subst c11
  have H1 : (some false) = some r := by rw [if_neg (show ¬ (false = true) by decide)] at H; exact H
  clear H
  have H := H1
  clear H1
  obtain rfl := Option.some.inj H
  go_enter Try.func40, Try.ntmps40
  go_wp2_with (first | ((with_reducible refine gate_dst (N := 1) rfl ?_); refine box_event ?hg (N := 1) ?hd (cs := #[.int .i64 a0_0, .int .i64 a0_1, .int .i64 a0_2, .int .i64 a0_3, .int .i64 a0_4, .int .i64 a0_5, .string a0_6]) (t := 28) ?hr ?_; (case hd => rfl); (case hg => rfl); (case hr => first | (go_simp; done) | (go_simp; rfl)); intro gb285 hg w21 hbox hb; have n0_ := am_ (below_step aa_0 hb); have n1_ := am_ (hbox); have n2_ := am_ ((by rw [hg]; exact (below_size aa_0) : w.heap.size ≤ gb285)); have n3_ := am_ ((by rw [hg]; exact (below_size aa_0) : w.heap.size ≤ gb285)); clear HB; have HB := n0_; have BK285 := n1_; have GW285 := n2_; have GE285 := n3_; clear n0_ n1_ n2_ n3_; clear hb hbox hg; have hcz22_0 : w21.cell? ⟨gb285, 0, none⟩ = some (.int .i64 a0_0) := (bc BK285 0); have hcz22_1 : w21.cell? ⟨gb285, 1, none⟩ = some (.int .i64 a0_1) := (bc BK285 1); have hcz22_2 : w21.cell? ⟨gb285, 2, none⟩ = some (.int .i64 a0_2) := (bc BK285 2); have hcz22_3 : w21.cell? ⟨gb285, 3, none⟩ = some (.int .i64 a0_3) := (bc BK285 3); have hcz22_4 : w21.cell? ⟨gb285, 4, none⟩ = some (.int .i64 a0_4) := (bc BK285 4); have hcz22_5 : w21.cell? ⟨gb285, 5, none⟩ = some (.int .i64 a0_5) := (bc BK285 5); have hcz22_6 : w21.cell? ⟨gb285, 6, none⟩ = some (.string a0_6) := (bc BK285 6); have hfz22_0 := blk_frozen BK285.out 0; have hfz22_1 := blk_frozen BK285.out 1; have hfz22_2 := blk_frozen BK285.out 2; have hfz22_3 := blk_frozen BK285.out 3; have hfz22_4 := blk_frozen BK285.out 4; have hfz22_5 := blk_frozen BK285.out 5; have hfz22_6 := blk_frozen BK285.out 6) | (go_at_call 45; (with_reducible refine (rights_May.calls a0_4 false _ A10.out).mono ?_); rintro e w' ⟨rfl, ⟨nd, rfl⟩⟩))
  go_ret
  exact ⟨by first | rfl | (simp [errW_none, errW_some] <;> rfl) | (simp [*, errW_none, errW_some] <;> rfl), by repeat (first | (with_reducible first | exact HB.out | apply below_alloc | apply pw_below_drewN | apply below_drew1 | refine below_set ?_ GE285.out) | exact HB.out)⟩
 subst c11
 have H1 : ((rights_May.f a0_5).bind fun t287 => (if t287 = true then (if a0_6.toList = ([] : List UInt8) then (some true) else (some (a0_0 == 4))) else (some false))) = some r := by rw [if_pos rfl] at H; exact H
 clear H
 have H := H1
 clear H1
 replace H := bm_ H
 obtain ⟨t287, A120, H⟩ := H
 replace H : (if t287 = true then (if a0_6.toList = ([] : List UInt8) then (some true) else (some (a0_0 == 4))) else (some false)) = some r := H
 have A12 := am_ A120
 clear A120
 by_cases c13 : t287 = true
 rotate_left
 ·replace c13 := Bool.eq_false_iff.mpr c13
  subst c13
  have H1 : (some false) = some r := by rw [if_neg (show ¬ (false = true) by decide)] at H; exact H
  clear H
  have H := H1
  clear H1
  obtain rfl := Option.some.inj H
  go_enter Try.func40, Try.ntmps40
  go_wp2_with (first | ((with_reducible refine gate_dst (N := 1) rfl ?_); refine box_event ?hg (N := 1) ?hd (cs := #[.int .i64 a0_0, .int .i64 a0_1, .int .i64 a0_2, .int .i64 a0_3, .int .i64 a0_4, .int .i64 a0_5, .string a0_6]) (t := 28) ?hr ?_; (case hd => rfl); (case hg => rfl); (case hr => first | (go_simp; done) | (go_simp; rfl)); intro gb285 hg w19 hbox hb; have n0_ := am_ (below_step aa_0 hb); have n1_ := am_ (hbox); have n2_ := am_ ((by rw [hg]; exact (below_size aa_0) : w.heap.size ≤ gb285)); have n3_ := am_ ((by rw [hg]; exact (below_size aa_0) : w.heap.size ≤ gb285)); clear HB; have HB := n0_; have BK285 := n1_; have GW285 := n2_; have GE285 := n3_; clear n0_ n1_ n2_ n3_; clear hb hbox hg; have hcz20_0 : w19.cell? ⟨gb285, 0, none⟩ = some (.int .i64 a0_0) := (bc BK285 0); have hcz20_1 : w19.cell? ⟨gb285, 1, none⟩ = some (.int .i64 a0_1) := (bc BK285 1); have hcz20_2 : w19.cell? ⟨gb285, 2, none⟩ = some (.int .i64 a0_2) := (bc BK285 2); have hcz20_3 : w19.cell? ⟨gb285, 3, none⟩ = some (.int .i64 a0_3) := (bc BK285 3); have hcz20_4 : w19.cell? ⟨gb285, 4, none⟩ = some (.int .i64 a0_4) := (bc BK285 4); have hcz20_5 : w19.cell? ⟨gb285, 5, none⟩ = some (.int .i64 a0_5) := (bc BK285 5); have hcz20_6 : w19.cell? ⟨gb285, 6, none⟩ = some (.string a0_6) := (bc BK285 6); have hfz20_0 := blk_frozen BK285.out 0; have hfz20_1 := blk_frozen BK285.out 1; have hfz20_2 := blk_frozen BK285.out 2; have hfz20_3 := blk_frozen BK285.out 3; have hfz20_4 := blk_frozen BK285.out 4; have hfz20_5 := blk_frozen BK285.out 5; have hfz20_6 := blk_frozen BK285.out 6) | (go_at_call 45; (with_reducible refine (rights_May.calls a0_4 true _ A10.out).mono ?_); rintro e w' ⟨rfl, ⟨nd, rfl⟩⟩) | (go_at_call 45; (with_reducible refine (rights_May.calls a0_5 false _ A12.out).mono ?_); rintro e w' ⟨rfl, ⟨nd, rfl⟩⟩))
  go_ret
  exact ⟨by first | rfl | (simp [errW_none, errW_some] <;> rfl) | (simp [*, errW_none, errW_some] <;> rfl), by repeat (first | (with_reducible first | exact HB.out | apply below_alloc | apply pw_below_drewN | apply below_drew1 | refine below_set ?_ GE285.out) | exact HB.out)⟩
 subst c13
 have H1 : (if a0_6.toList = ([] : List UInt8) then (some true) else (some (a0_0 == 4))) = some r := by rw [if_pos rfl] at H; exact H
 clear H
 have H := H1
 clear H1
 by_cases c14 : a0_6.toList = ([] : List UInt8)
 ·rw [if_pos c14] at H
  have c14b0 : (a0_6.toList == ([] : List UInt8)) = true := beq_iff_eq.mpr c14
  have c14b1 : (a0_6.toList != ([] : List UInt8)) = false := bne_eq_false_iff_eq.mpr c14
  clear c14
  obtain rfl := Option.some.inj H
  go_enter Try.func40, Try.ntmps40
  go_wp2_with (first | ((with_reducible refine gate_dst (N := 1) rfl ?_); refine box_event ?hg (N := 1) ?hd (cs := #[.int .i64 a0_0, .int .i64 a0_1, .int .i64 a0_2, .int .i64 a0_3, .int .i64 a0_4, .int .i64 a0_5, .string a0_6]) (t := 28) ?hr ?_; (case hd => rfl); (case hg => rfl); (case hr => first | (go_simp; done) | (go_simp; rfl)); intro gb285 hg w15 hbox hb; have n0_ := am_ (below_step aa_0 hb); have n1_ := am_ (hbox); have n2_ := am_ ((by rw [hg]; exact (below_size aa_0) : w.heap.size ≤ gb285)); have n3_ := am_ ((by rw [hg]; exact (below_size aa_0) : w.heap.size ≤ gb285)); clear HB; have HB := n0_; have BK285 := n1_; have GW285 := n2_; have GE285 := n3_; clear n0_ n1_ n2_ n3_; clear hb hbox hg; have hcz16_0 : w15.cell? ⟨gb285, 0, none⟩ = some (.int .i64 a0_0) := (bc BK285 0); have hcz16_1 : w15.cell? ⟨gb285, 1, none⟩ = some (.int .i64 a0_1) := (bc BK285 1); have hcz16_2 : w15.cell? ⟨gb285, 2, none⟩ = some (.int .i64 a0_2) := (bc BK285 2); have hcz16_3 : w15.cell? ⟨gb285, 3, none⟩ = some (.int .i64 a0_3) := (bc BK285 3); have hcz16_4 : w15.cell? ⟨gb285, 4, none⟩ = some (.int .i64 a0_4) := (bc BK285 4); have hcz16_5 : w15.cell? ⟨gb285, 5, none⟩ = some (.int .i64 a0_5) := (bc BK285 5); have hcz16_6 : w15.cell? ⟨gb285, 6, none⟩ = some (.string a0_6) := (bc BK285 6); have hfz16_0 := blk_frozen BK285.out 0; have hfz16_1 := blk_frozen BK285.out 1; have hfz16_2 := blk_frozen BK285.out 2; have hfz16_3 := blk_frozen BK285.out 3; have hfz16_4 := blk_frozen BK285.out 4; have hfz16_5 := blk_frozen BK285.out 5; have hfz16_6 := blk_frozen BK285.out 6) | (go_at_call 45; (with_reducible refine (rights_May.calls a0_4 true _ A10.out).mono ?_); rintro e w' ⟨rfl, ⟨nd, rfl⟩⟩) | (go_at_call 45; (with_reducible refine (rights_May.calls a0_5 true _ A12.out).mono ?_); rintro e w' ⟨rfl, ⟨nd, rfl⟩⟩))
  go_ret
  exact ⟨by first | rfl | (simp [errW_none, errW_some] <;> rfl) | (simp [*, errW_none, errW_some] <;> rfl), by repeat (first | (with_reducible first | exact HB.out | apply below_alloc | apply pw_below_drewN | apply below_drew1 | refine below_set ?_ GE285.out) | exact HB.out)⟩
 rw [if_neg c14] at H
 have c14b0 : (a0_6.toList == ([] : List UInt8)) = false := beq_eq_false_iff_ne.mpr c14
 have c14b1 : (a0_6.toList != ([] : List UInt8)) = true := bne_iff_ne.mpr c14
 obtain rfl := Option.some.inj H
 go_enter Try.func40, Try.ntmps40
 go_wp2_with (first | ((with_reducible refine gate_dst (N := 1) rfl ?_); refine box_event ?hg (N := 1) ?hd (cs := #[.int .i64 a0_0, .int .i64 a0_1, .int .i64 a0_2, .int .i64 a0_3, .int .i64 a0_4, .int .i64 a0_5, .string a0_6]) (t := 28) ?hr ?_; (case hd => rfl); (case hg => rfl); (case hr => first | (go_simp; done) | (go_simp; rfl)); intro gb285 hg w17 hbox hb; have n0_ := am_ (below_step aa_0 hb); have n1_ := am_ (hbox); have n2_ := am_ ((by rw [hg]; exact (below_size aa_0) : w.heap.size ≤ gb285)); have n3_ := am_ ((by rw [hg]; exact (below_size aa_0) : w.heap.size ≤ gb285)); clear HB; have HB := n0_; have BK285 := n1_; have GW285 := n2_; have GE285 := n3_; clear n0_ n1_ n2_ n3_; clear hb hbox hg; have hcz18_0 : w17.cell? ⟨gb285, 0, none⟩ = some (.int .i64 a0_0) := (bc BK285 0); have hcz18_1 : w17.cell? ⟨gb285, 1, none⟩ = some (.int .i64 a0_1) := (bc BK285 1); have hcz18_2 : w17.cell? ⟨gb285, 2, none⟩ = some (.int .i64 a0_2) := (bc BK285 2); have hcz18_3 : w17.cell? ⟨gb285, 3, none⟩ = some (.int .i64 a0_3) := (bc BK285 3); have hcz18_4 : w17.cell? ⟨gb285, 4, none⟩ = some (.int .i64 a0_4) := (bc BK285 4); have hcz18_5 : w17.cell? ⟨gb285, 5, none⟩ = some (.int .i64 a0_5) := (bc BK285 5); have hcz18_6 : w17.cell? ⟨gb285, 6, none⟩ = some (.string a0_6) := (bc BK285 6); have hfz18_0 := blk_frozen BK285.out 0; have hfz18_1 := blk_frozen BK285.out 1; have hfz18_2 := blk_frozen BK285.out 2; have hfz18_3 := blk_frozen BK285.out 3; have hfz18_4 := blk_frozen BK285.out 4; have hfz18_5 := blk_frozen BK285.out 5; have hfz18_6 := blk_frozen BK285.out 6) | (go_at_call 45; (with_reducible refine (rights_May.calls a0_4 true _ A10.out).mono ?_); rintro e w' ⟨rfl, ⟨nd, rfl⟩⟩) | (go_at_call 45; (with_reducible refine (rights_May.calls a0_5 true _ A12.out).mono ?_); rintro e w' ⟨rfl, ⟨nd, rfl⟩⟩))
 go_ret
 exact ⟨by first | rfl | (simp [errW_none, errW_some] <;> rfl) | (simp [*, errW_none, errW_some] <;> rfl), by repeat (first | (with_reducible first | exact HB.out | apply below_alloc | apply pw_below_drewN | apply below_drew1 | refine below_set ?_ GE285.out) | exact HB.out)⟩
/-! ### stat_fdType: function 41 -/
def stat_fdType.f (a0 : Int) : Option (Int) := if a0 = 4 then (some 3) else (if a0 = 5 then (some 4) else (some 2))
set_option maxHeartbeats 8000000 in
set_option maxRecDepth 100000 in
theorem stat_fdType.calls (a0 : Int) (r : Int) (w : World) (h : stat_fdType.f a0 = some r) :
    Calls Try.prog 41 #[.int .i64 a0] w fun e w' => e = .returned (.int .i64 r) ∧ Drawn0 w w' := by
  have H : (if a0 = 4 then (some 3) else (if a0 = 5 then (some 4) else (some 2))) = some r := h
  clear h
  by_cases c2 : a0 = 4
  · rw [if_pos c2] at H
    have c2b0 : (a0 == 4) = true := beq_iff_eq.mpr c2
    have c2b1 : (a0 != 4) = false := bne_eq_false_iff_eq.mpr c2
    clear c2
    obtain rfl := Option.some.inj H
    go_enter Try.func41, Try.ntmps41
    go_wp2
    go_ret
    exact ⟨by first | rfl | (simp; done) | (simp [*]; done), by repeat (first | exact Drawn0.refl _ | apply Drawn0.step)⟩
  · rw [if_neg c2] at H
    have c2b0 : (a0 == 4) = false := beq_eq_false_iff_ne.mpr c2
    have c2b1 : (a0 != 4) = true := bne_iff_ne.mpr c2
    by_cases c3 : a0 = 5
    · rw [if_pos c3] at H
      have c3b0 : (a0 == 5) = true := beq_iff_eq.mpr c3
      have c3b1 : (a0 != 5) = false := bne_eq_false_iff_eq.mpr c3
      clear c3
      obtain rfl := Option.some.inj H
      go_enter Try.func41, Try.ntmps41
      go_wp2
      go_ret
      exact ⟨by first | rfl | (simp; done) | (simp [*]; done), by repeat (first | exact Drawn0.refl _ | apply Drawn0.step)⟩
    · rw [if_neg c3] at H
      have c3b0 : (a0 == 5) = false := beq_eq_false_iff_ne.mpr c3
      have c3b1 : (a0 != 5) = true := bne_iff_ne.mpr c3
      obtain rfl := Option.some.inj H
      go_enter Try.func41, Try.ntmps41
      go_wp2
      go_ret
      exact ⟨by first | rfl | (simp; done) | (simp [*]; done), by repeat (first | exact Drawn0.refl _ | apply Drawn0.step)⟩

/-! ### stat_Fdstat: function 21 -/
abbrev stat_Fdstat.t : Bool := true
abbrev stat_Fdstat.f_ : Bool := false
theorem stat_Fdstat.bc {w : World} {g : Nat} {cs : Array Value} {t : TypeId} (h : Aside0 (w.heap[g]? = some (.cells cs t (0, 0)))) (i : Nat) {v : Value} (e : cs[i]? = some v := by rfl) : w.cell? ⟨g, i, none⟩ = some v := (blk_cell h.out i).trans e
theorem stat_Fdstat.bkept {W0 W W2 : World} {g : Nat} {o : Obj} {S : Nat → Prop} (_b : Aside0 (W0.heap[g]? = some o)) (h : W.heap[g]? = some o) (hk : Kept W W2 S) (hn : ¬ S g) : W2.heap[g]? = some o := blk_kept h hk hn
theorem stat_Fdstat.bbelow {W0 w w1 : World} {g : Nat} {o : Obj} (_b : Aside0 (W0.heap[g]? = some o)) (h : w.heap[g]? = some o) (hb : Below w.heap.size w w1) : w1.heap[g]? = some o := blk_below h hb
theorem stat_Fdstat.e1 {α : Type _} (xs : List α) (i : Nat) (a : α) : xs.toArray.setIfInBounds i a = (xs.set i a).toArray := by simp
theorem stat_Fdstat.e2 {α : Type _} (x a : α) (xs : List α) : (x :: xs).set 0 a = a :: xs := rfl
theorem stat_Fdstat.e3 {α : Type _} (x a : α) (xs : List α) (n : Nat) : (x :: xs).set (n + 1) a = x :: xs.set n a := rfl
def stat_Fdstat.f (k : Nat) (a0_0 : Int) (a0_1 : Int) (a0_2 : Int) (a0_3 : Int) (a0_4 : Int) (a0_5 : Int) (a0_6 : ByteArray) : Option (List Int × Int) := (fds_May.f a0_0 a0_1 a0_2 a0_3 a0_4 a0_5 a0_6).bind fun t289 => (if t289 = true then ((stat_fresh.f 24).bind fun t290 => ((stat_fdType.f a0_0).bind fun t294 => ((stat_field_set.f k t290 0 1 t294).bind fun t295 => ((stat_field_set.f k t295 2 2 a0_3).bind fun t296 => ((stat_field_set.f k t296 8 8 a0_4).bind fun t297 => ((stat_field_set.f k t297 16 8 a0_5).bind fun t298 => (some (t298, 0)))))))) else (some (([] : List Int), 100)))
theorem stat_Fdstat.mono : ∀ a0 a1 a2 a3 a4 a5 a6 k, LeO (stat_Fdstat.f k a0 a1 a2 a3 a4 a5 a6) (stat_Fdstat.f (k + 1) a0 a1 a2 a3 a4 a5 a6) := by
 intro a0 a1 a2 a3 a4 a5 a6 k
 unfold stat_Fdstat.f
 repeat' first
   | (with_reducible exact stat_field_set.mono _ _ _ _ _)
   | (with_reducible exact LeO.refl _)
   | (with_reducible exact LeO.none _)
   | (with_reducible refine LeO.ite ?_ ?_)
   | (with_reducible refine LeO.bind ?_ (fun _ => ?_))
   | exact stat_field_set.mono _ _ _ _ _
   | exact LeO.none _
   | refine LeO.ite ?_ ?_
   | refine LeO.bind ?_ (fun _ => ?_)
theorem stat_Fdstat.aa_0 {p : Prop} (h : p := by (with_reducible repeat (first | refine blk_drewN ?_ _ | refine blk_drew ?_ | refine blk_alloc ?_ _)); exact BK288.out) : p := h
theorem stat_Fdstat.aa_1 {p : Prop} (h : p := by repeat (first | (with_reducible first | exact HB.out | apply below_alloc | apply pw_below_drewN | apply below_drew1 | refine below_set ?_ GE288.out) | exact HB.out)) : p := h
theorem stat_Fdstat.aa_2 {p : Prop} (h : p := by repeat (first | (with_reducible first | exact HB.out | apply below_alloc | apply pw_below_drewN | apply below_drew1) | exact HB.out)) : p := h
theorem stat_Fdstat.aa_3 {p : Prop} (h : p := by (try simp only [List.map_toArray, List.map_cons, List.map_nil]); first | done | rfl | (simp; done) | rfl | (simp only [List.length_drop, List.length_take]; rfl)) : p := h
theorem stat_Fdstat.aa_4 {p : Prop} (h : p := by (try simp only [List.map_toArray, List.map_cons, List.map_nil]); first | done | rfl | (simp only [List.length_drop, List.length_take]; rfl)) : p := h
theorem stat_Fdstat.aa_5 {p : Prop} (h : p := by (with_reducible repeat (first | refine blk_drewN ?_ _ | refine blk_drew ?_ | refine blk_alloc ?_ _)); exact BK293.out) : p := h
theorem stat_Fdstat.aa_6 {p : Prop} (h : p := by repeat (first | (with_reducible first | exact HB.out | apply below_alloc | apply pw_below_drewN | apply below_drew1 | refine below_set ?_ GE288.out | refine below_set ?_ GE293.out) | exact HB.out)) : p := h
theorem stat_Fdstat.am_ {p : Prop} (h : p) : Aside0 p := Aside0.mk h
theorem stat_Fdstat.bm_ {α β : Type _} {o : Option α} {f : α → Option β} {b : β} (h : o.bind f = some b) : ∃ a, o = some a ∧ f a = some b := Option.bind_eq_some_iff.mp h
set_option maxHeartbeats 8000000 in
set_option maxRecDepth 100000 in
theorem stat_Fdstat.calls (k : Nat) (a0_0 : Int) (a0_1 : Int) (a0_2 : Int) (a0_3 : Int) (a0_4 : Int) (a0_5 : Int) (a0_6 : ByteArray) (r1 : List Int) (r2 : Int) (w : World) (h : stat_Fdstat.f k a0_0 a0_1 a0_2 a0_3 a0_4 a0_5 a0_6 = some (r1, r2)) :
  Calls Try.prog 21 #[.agg #[.int .i64 a0_0, .int .i64 a0_1, .int .i64 a0_2, .int .i64 a0_3, .int .i64 a0_4, .int .i64 a0_5, .string a0_6]] w fun e w' => ∃ v0_ : Value, e = .returned (.tuple #[v0_, .int .i64 r2]) ∧ Kd.R (Kd.int .u8) 5 w' w.heap.size (fun _ => True) v0_ r1 ∧ Below w.heap.size w w' := by
 have hu28 := Try.underlying28
 have hu61 := Try.underlying61
 have HB := am_ (Below.refl w.heap.size w)
 have H : ((fds_May.f a0_0 a0_1 a0_2 a0_3 a0_4 a0_5 a0_6).bind fun t289 => (if t289 = true then ((stat_fresh.f 24).bind fun t290 => ((stat_fdType.f a0_0).bind fun t294 => ((stat_field_set.f k t290 0 1 t294).bind fun t295 => ((stat_field_set.f k t295 2 2 a0_3).bind fun t296 => ((stat_field_set.f k t296 8 8 a0_4).bind fun t297 => ((stat_field_set.f k t297 16 8 a0_5).bind fun t298 => (some (t298, 0)))))))) else (some (([] : List Int), 100)))) = some (r1, r2) := h
 clear h
 replace H := bm_ H
 obtain ⟨t289, A20, H⟩ := H
 replace H : (if t289 = true then ((stat_fresh.f 24).bind fun t290 => ((stat_fdType.f a0_0).bind fun t294 => ((stat_field_set.f k t290 0 1 t294).bind fun t295 => ((stat_field_set.f k t295 2 2 a0_3).bind fun t296 => ((stat_field_set.f k t296 8 8 a0_4).bind fun t297 => ((stat_field_set.f k t297 16 8 a0_5).bind fun t298 => (some (t298, 0)))))))) else (some (([] : List Int), 100))) = some (r1, r2) := H
 have A2 := am_ A20
 clear A20
 by_cases c3 : t289 = true
 rotate_left
 ·replace c3 := Bool.eq_false_iff.mpr c3
  subst c3
  have H1 : (some (([] : List Int), 100)) = some (r1, r2) := by rw [if_neg (show ¬ (false = true) by decide)] at H; exact H
  clear H
  have H := H1
  clear H1
  simp only [Option.some.injEq, Prod.mk.injEq] at H
  obtain ⟨rfl, rfl⟩ := H
  go_enter Try.func21, Try.ntmps21
  go_wp2_with (first | ((with_reducible refine gate_dst (N := 1) rfl ?_); refine box_event ?hg (N := 1) ?hd (cs := #[.int .i64 a0_0, .int .i64 a0_1, .int .i64 a0_2, .int .i64 a0_3, .int .i64 a0_4, .int .i64 a0_5, .string a0_6]) (t := 28) ?hr ?_; (case hd => rfl); (case hg => rfl); (case hr => first | (go_simp; done) | (go_simp; rfl)); intro gb288 hg w29 hbox hb; have n0_ := am_ (below_step aa_2 hb); have n1_ := am_ (hbox); have n2_ := am_ ((by rw [hg]; exact (below_size aa_2) : w.heap.size ≤ gb288)); have n3_ := am_ ((by rw [hg]; exact (below_size aa_2) : w.heap.size ≤ gb288)); clear HB; have HB := n0_; have BK288 := n1_; have GW288 := n2_; have GE288 := n3_; clear n0_ n1_ n2_ n3_; clear hb hbox hg; have hcz30_0 : w29.cell? ⟨gb288, 0, none⟩ = some (.int .i64 a0_0) := (bc BK288 0); have hcz30_1 : w29.cell? ⟨gb288, 1, none⟩ = some (.int .i64 a0_1) := (bc BK288 1); have hcz30_2 : w29.cell? ⟨gb288, 2, none⟩ = some (.int .i64 a0_2) := (bc BK288 2); have hcz30_3 : w29.cell? ⟨gb288, 3, none⟩ = some (.int .i64 a0_3) := (bc BK288 3); have hcz30_4 : w29.cell? ⟨gb288, 4, none⟩ = some (.int .i64 a0_4) := (bc BK288 4); have hcz30_5 : w29.cell? ⟨gb288, 5, none⟩ = some (.int .i64 a0_5) := (bc BK288 5); have hcz30_6 : w29.cell? ⟨gb288, 6, none⟩ = some (.string a0_6) := (bc BK288 6); have hfz30_0 := blk_frozen BK288.out 0; have hfz30_1 := blk_frozen BK288.out 1; have hfz30_2 := blk_frozen BK288.out 2; have hfz30_3 := blk_frozen BK288.out 3; have hfz30_4 := blk_frozen BK288.out 4; have hfz30_5 := blk_frozen BK288.out 5; have hfz30_6 := blk_frozen BK288.out 6) | ((with_reducible refine gate_callee (f := 40) rfl ?_); refine goesL_ (some 7) rfl rfl Try.func40 (by kernel_rfl) rfl #[.agg #[.int .i64 a0_0, .int .i64 a0_1, .int .i64 a0_2, .int .i64 a0_3, .int .i64 a0_4, .int .i64 a0_5, .string a0_6]] rfl aa_4 ?_; (with_reducible refine (fds_May.calls a0_0 a0_1 a0_2 a0_3 a0_4 a0_5 a0_6 false _ A2.out).mono ?_); rintro e w31 ⟨rfl, hb⟩; refine ⟨_, rfl, ?_⟩; have n0_ := am_ (bbelow BK288 aa_0 hb); have n1_ := am_ (below_step aa_1 hb); clear BK288; clear HB; have BK288 := n0_; have HB := n1_; clear n0_ n1_; (try clear hb); (try clear hb2); (try clear hk); (try clear hi)))
  go_ret2
  exact ⟨_, by first | rfl | (simp [errW_none, errW_some] <;> rfl) | (simp [*, errW_none, errW_some] <;> rfl), by first | exact Kd.R_nil _ _ _ _ _ | exact Kd.N_nil _ _ _ _ _ | exact Kd.V_nil _ _ _ _ _ | exact Kd.Q_nil _ _ _ _ _ | exact Kd.S_nil _ _ _ _ _, by repeat (first | (with_reducible first | exact HB.out | apply below_alloc | apply pw_below_drewN | apply below_drew1 | refine below_set ?_ GE288.out) | exact HB.out)⟩
 subst c3
 have H1 : ((stat_fresh.f 24).bind fun t290 => ((stat_fdType.f a0_0).bind fun t294 => ((stat_field_set.f k t290 0 1 t294).bind fun t295 => ((stat_field_set.f k t295 2 2 a0_3).bind fun t296 => ((stat_field_set.f k t296 8 8 a0_4).bind fun t297 => ((stat_field_set.f k t297 16 8 a0_5).bind fun t298 => (some (t298, 0)))))))) = some (r1, r2) := by rw [if_pos rfl] at H; exact H
 clear H
 have H := H1
 clear H1
 replace H := bm_ H
 obtain ⟨t290, A40, H⟩ := H
 replace H : ((stat_fdType.f a0_0).bind fun t294 => ((stat_field_set.f k t290 0 1 t294).bind fun t295 => ((stat_field_set.f k t295 2 2 a0_3).bind fun t296 => ((stat_field_set.f k t296 8 8 a0_4).bind fun t297 => ((stat_field_set.f k t297 16 8 a0_5).bind fun t298 => (some (t298, 0))))))) = some (r1, r2) := H
 have A4 := am_ A40
 clear A40
 replace H := bm_ H
 obtain ⟨t294, A50, H⟩ := H
 replace H : ((stat_field_set.f k t290 0 1 t294).bind fun t295 => ((stat_field_set.f k t295 2 2 a0_3).bind fun t296 => ((stat_field_set.f k t296 8 8 a0_4).bind fun t297 => ((stat_field_set.f k t297 16 8 a0_5).bind fun t298 => (some (t298, 0)))))) = some (r1, r2) := H
 have A5 := am_ A50
 clear A50
 replace H := bm_ H
 obtain ⟨t295, A60, H⟩ := H
 replace H : ((stat_field_set.f k t295 2 2 a0_3).bind fun t296 => ((stat_field_set.f k t296 8 8 a0_4).bind fun t297 => ((stat_field_set.f k t297 16 8 a0_5).bind fun t298 => (some (t298, 0))))) = some (r1, r2) := H
 have A6 := am_ A60
 clear A60
 replace H := bm_ H
 obtain ⟨t296, A70, H⟩ := H
 replace H : ((stat_field_set.f k t296 8 8 a0_4).bind fun t297 => ((stat_field_set.f k t297 16 8 a0_5).bind fun t298 => (some (t298, 0)))) = some (r1, r2) := H
 have A7 := am_ A70
 clear A70
 replace H := bm_ H
 obtain ⟨t297, A80, H⟩ := H
 replace H : ((stat_field_set.f k t297 16 8 a0_5).bind fun t298 => (some (t298, 0))) = some (r1, r2) := H
 have A8 := am_ A80
 clear A80
 replace H := bm_ H
 obtain ⟨t298, A90, H⟩ := H
 replace H : (some (t298, 0)) = some (r1, r2) := H
 have A9 := am_ A90
 clear A90
 simp only [Option.some.injEq, Prod.mk.injEq] at H
 obtain ⟨rfl, rfl⟩ := H
 go_enter Try.func21, Try.ntmps21
 go_wp2_with (first | ((with_reducible refine gate_dst (N := 1) rfl ?_); refine box_event ?hg (N := 1) ?hd (cs := #[.int .i64 a0_0, .int .i64 a0_1, .int .i64 a0_2, .int .i64 a0_3, .int .i64 a0_4, .int .i64 a0_5, .string a0_6]) (t := 28) ?hr ?_; (case hd => rfl); (case hg => rfl); (case hr => first | (go_simp; done) | (go_simp; rfl)); intro gb288 hg w10 hbox hb; have n0_ := am_ (below_step aa_2 hb); have n1_ := am_ (hbox); have n2_ := am_ ((by rw [hg]; exact (below_size aa_2) : w.heap.size ≤ gb288)); have n3_ := am_ ((by rw [hg]; exact (below_size aa_2) : w.heap.size ≤ gb288)); clear HB; have HB := n0_; have BK288 := n1_; have GW288 := n2_; have GE288 := n3_; clear n0_ n1_ n2_ n3_; clear hb hbox hg; have hcz11_0 : w10.cell? ⟨gb288, 0, none⟩ = some (.int .i64 a0_0) := (bc BK288 0); have hcz11_1 : w10.cell? ⟨gb288, 1, none⟩ = some (.int .i64 a0_1) := (bc BK288 1); have hcz11_2 : w10.cell? ⟨gb288, 2, none⟩ = some (.int .i64 a0_2) := (bc BK288 2); have hcz11_3 : w10.cell? ⟨gb288, 3, none⟩ = some (.int .i64 a0_3) := (bc BK288 3); have hcz11_4 : w10.cell? ⟨gb288, 4, none⟩ = some (.int .i64 a0_4) := (bc BK288 4); have hcz11_5 : w10.cell? ⟨gb288, 5, none⟩ = some (.int .i64 a0_5) := (bc BK288 5); have hcz11_6 : w10.cell? ⟨gb288, 6, none⟩ = some (.string a0_6) := (bc BK288 6); have hfz11_0 := blk_frozen BK288.out 0; have hfz11_1 := blk_frozen BK288.out 1; have hfz11_2 := blk_frozen BK288.out 2; have hfz11_3 := blk_frozen BK288.out 3; have hfz11_4 := blk_frozen BK288.out 4; have hfz11_5 := blk_frozen BK288.out 5; have hfz11_6 := blk_frozen BK288.out 6) | ((with_reducible refine gate_callee (f := 40) rfl ?_); refine goesL_ (some 7) rfl rfl Try.func40 (by kernel_rfl) rfl #[.agg #[.int .i64 a0_0, .int .i64 a0_1, .int .i64 a0_2, .int .i64 a0_3, .int .i64 a0_4, .int .i64 a0_5, .string a0_6]] rfl aa_4 ?_; (with_reducible refine (fds_May.calls a0_0 a0_1 a0_2 a0_3 a0_4 a0_5 a0_6 true _ A2.out).mono ?_); rintro e w12 ⟨rfl, hb⟩; refine ⟨_, rfl, ?_⟩; have n0_ := am_ (bbelow BK288 aa_0 hb); have n1_ := am_ (below_step aa_1 hb); clear BK288; clear HB; have BK288 := n0_; have HB := n1_; clear n0_ n1_; (try clear hb); (try clear hb2); (try clear hk); (try clear hi)) | ((with_reducible refine gate_callee (f := 31) rfl ?_); refine goesL_ (some 9) rfl rfl Try.func31 (by kernel_rfl) rfl #[.int .i64 24] rfl aa_4 ?_; (with_reducible refine (stat_fresh.calls 24 t290 _ A4.out).mono ?_); rintro e w13 ⟨v291, rfl, ho0, hb⟩; refine ⟨_, rfl, ?_⟩; have n0_ := am_ (Kd.R_lower ho0 (below_size aa_1)); have n1_ := am_ (bbelow BK288 aa_0 hb); have n2_ := am_ (below_step aa_1 hb); clear BK288; clear HB; have HO292 := n0_; have BK288 := n1_; have HB := n2_; clear n0_ n1_ n2_; (try clear hb); (try clear hb2); (try clear hk); (try clear hi); (try clear ho0)) | ((with_reducible refine gate_dst (N := 4) rfl ?_); refine box_event ?hg (N := 4) ?hd (cs := #[.slice none 0 0]) (t := 61) ?hr ?_; (case hd => rfl); (case hg => rfl); (case hr => first | (go_simp; done) | (go_simp; rfl)); intro gb293 hg w14 hbox hb; have n0_ := am_ (Kd.R_below (by (with_reducible repeat (first | apply Kd.R_alloc | apply Kd.R_drewN | apply Kd.R_drew)); exact HO292.out) hb); have n1_ := am_ (bbelow BK288 aa_0 hb); have n2_ := am_ (below_step aa_1 hb); have n3_ := am_ (hbox); have n4_ := am_ ((by rw [hg]; exact (below_size aa_1) : w.heap.size ≤ gb293)); have n5_ := am_ ((by rw [hg]; exact (below_size aa_1) : w.heap.size ≤ gb293)); have n6_ := am_ ((by rw [hg]; exact Nat.ne_of_lt (blk_lt (g := gb288) (o := .cells #[.int .i64 a0_0, .int .i64 a0_1, .int .i64 a0_2, .int .i64 a0_3, .int .i64 a0_4, .int .i64 a0_5, .string a0_6] 28 (0, 0)) aa_0) : gb288 ≠ gb293)); have n7_ := am_ ((by rw [hg]; exact Nat.ne_of_gt (blk_lt (g := gb288) (o := .cells #[.int .i64 a0_0, .int .i64 a0_1, .int .i64 a0_2, .int .i64 a0_3, .int .i64 a0_4, .int .i64 a0_5, .string a0_6] 28 (0, 0)) aa_0) : gb293 ≠ gb288)); clear HO292; clear BK288; clear HB; have HO292 := n0_; have BK288 := n1_; have HB := n2_; have BK293 := n3_; have GW293 := n4_; have GE293 := n5_; have NB288_293 := n6_; have NB293_288 := n7_; clear n0_ n1_ n2_ n3_ n4_ n5_ n6_ n7_; clear hb hbox hg; obtain ⟨Ao15, co15, eo15⟩ := Kd.R_slice HO292.out; subst eo15; have hnb16 := NB293_288.out; have hnc16 := NB288_293.out; have hcz17_0 : w14.cell? ⟨gb293, 0, none⟩ = some (.slice none 0 0) := (bc BK293 0); have hfz17_0 := blk_frozen BK293.out 0) | ((with_reducible refine gate_store (t := 61) (p := 4) rfl ?_); refine store_event (t := 61) (p := 4) (v := ?vo_w18) (w1 := (w14.setCell ⟨gb293, 0, none⟩ (.slice Ao15 t290.length co15))) ?hg ?ho ?hn ?hr ?_; (case ho => rfl); (case hg => rfl); (case hn => rfl); (case hr => first | (go_simp; done) | (go_simp; rfl)); intro w18 hw; have n0_ : Aside0 (Kd.R (Kd.int .u8) 5 w18 w.heap.size (fun _ => True) (.slice Ao15 t290.length co15) t290) := ⟨(by rw [hw]; exact (by (with_reducible repeat (first | apply Kd.R_alloc | apply Kd.R_drewN | apply Kd.R_drew)); exact Kd.R_mono (Kd.R_far (p := ⟨gb293, 0, none⟩) (Kd.R_types HO292.out BK293.out (by decide)) (fun _ hk => hk.2) (.slice Ao15 t290.length co15)) (fun _ hk => trivial)))⟩; have n1_ : Aside0 (w18.heap[gb288]? = some (.cells #[.int .i64 a0_0, .int .i64 a0_1, .int .i64 a0_2, .int .i64 a0_3, .int .i64 a0_4, .int .i64 a0_5, .string a0_6] 28 (0, 0))) := ⟨(by rw [hw]; exact (by (with_reducible repeat (first | refine blk_drewN ?_ _ | refine blk_drew ?_ | refine blk_alloc ?_ _)); refine blk_far ?_ NB288_293.out _; (with_reducible repeat (first | refine blk_drewN ?_ _ | refine blk_drew ?_ | refine blk_alloc ?_ _)); exact BK288.out))⟩; have n2_ : Aside0 (w18.heap[gb293]? = some (.cells #[.slice Ao15 t290.length co15] 61 (0, 0))) := ⟨(by rw [hw]; exact (by (with_reducible repeat (first | refine blk_drewN ?_ _ | refine blk_drew ?_ | refine blk_alloc ?_ _)); refine blk_put (cs := #[.slice none 0 0]) ?_ 0 _ rfl; (with_reducible repeat (first | refine blk_drewN ?_ _ | refine blk_drew ?_ | refine blk_alloc ?_ _)); exact BK293.out))⟩; have n3_ : Aside0 (Below w.heap.size w w18) := ⟨(by rw [hw]; exact (by repeat (first | (with_reducible first | exact HB.out | apply below_alloc | apply pw_below_drewN | apply below_drew1 | refine below_set ?_ GE288.out | refine below_set ?_ GE293.out) | exact HB.out)))⟩; clear hw; clear HO292; clear BK288; clear BK293; clear HB; have HO292 := n0_; have BK288 := n1_; have BK293 := n2_; have HB := n3_; clear n0_ n1_ n2_ n3_; have hcz19_0 : w18.cell? ⟨gb293, 0, none⟩ = some (.slice Ao15 t290.length co15) := (bc BK293 0); have hfz19_0 := blk_frozen BK293.out 0; have hcz20_0 : w18.cell? ⟨gb288, 0, none⟩ = some (.int .i64 a0_0) := (bc BK288 0); have hcz20_1 : w18.cell? ⟨gb288, 1, none⟩ = some (.int .i64 a0_1) := (bc BK288 1); have hcz20_2 : w18.cell? ⟨gb288, 2, none⟩ = some (.int .i64 a0_2) := (bc BK288 2); have hcz20_3 : w18.cell? ⟨gb288, 3, none⟩ = some (.int .i64 a0_3) := (bc BK288 3); have hcz20_4 : w18.cell? ⟨gb288, 4, none⟩ = some (.int .i64 a0_4) := (bc BK288 4); have hcz20_5 : w18.cell? ⟨gb288, 5, none⟩ = some (.int .i64 a0_5) := (bc BK288 5); have hcz20_6 : w18.cell? ⟨gb288, 6, none⟩ = some (.string a0_6) := (bc BK288 6); have hfz20_0 := blk_frozen BK288.out 0; have hfz20_1 := blk_frozen BK288.out 1; have hfz20_2 := blk_frozen BK288.out 2; have hfz20_3 := blk_frozen BK288.out 3; have hfz20_4 := blk_frozen BK288.out 4; have hfz20_5 := blk_frozen BK288.out 5; have hfz20_6 := blk_frozen BK288.out 6) | ((with_reducible refine gate_callee (f := 41) rfl ?_); refine goesL_ (some 15) rfl rfl Try.func41 (by kernel_rfl) rfl #[.int .i64 a0_0] rfl aa_4 ?_; (with_reducible refine (stat_fdType.calls a0_0 t294 _ A5.out).mono ?_); rintro e w' ⟨rfl, ⟨nd, rfl⟩⟩; refine ⟨_, rfl, ?_⟩) | ((with_reducible refine Go.Proofs.YthhmnecnoojcpaaO.gate_value (F := .tmp 12) rfl ?_); refine Go.Proofs.YthhmnecnoojcpaaO.goesM_ (some 16) rfl rfl Try.func32 (by kernel_rfl) rfl #[.agg #[.slice Ao15 t290.length co15], .int .i64 0, .int .i64 1, .int .i64 t294] rfl rfl aa_3 ?_; (with_reducible refine (stat_field_set.calls k (fun k_ => some k_ = (.slice Ao15 t290.length co15 : Value).ownBlock) (.slice Ao15 t290.length co15) t290 0 1 t294 t295 w _ ?side1 ?side2 A6.out).mono ?_); (case side1 => exact aa_6); (case side2 => exact Kd.R_tight rfl HO292.out); rintro e w21 ⟨rfl, hy0, hb, hkp⟩; refine ⟨_, rfl, ?_⟩; (try obtain ⟨hlew21_0, hgew21_0⟩ := Go.Proofs.YthhmnecnoojcpaaO.R_lens hy0); have n0_ := am_ (bkept BK288 aa_0 hkp (fun hs_ => (fun e_ => (Kd.R_ne HO292.out BK288.out (by decide)) e_) hs_)); have n1_ := am_ (Kd.R_reok rfl hy0 (fun k_ e_ => HO292.out.1 k_ e_)); have n2_ := am_ (bkept BK293 aa_5 hkp (fun hs_ => (fun e_ => (Kd.R_ne HO292.out BK293.out (by decide)) e_) hs_)); have n3_ := am_ (hb); clear BK288; clear HO292; clear BK293; clear HB; have BK288 := n0_; have HO292 := n1_; have BK293 := n2_; have HB := n3_; clear n0_ n1_ n2_ n3_; (try clear hb); (try clear hkp); (try clear hy0); have hcz22_0 : w21.cell? ⟨gb288, 0, none⟩ = some (.int .i64 a0_0) := (bc BK288 0); have hcz22_1 : w21.cell? ⟨gb288, 1, none⟩ = some (.int .i64 a0_1) := (bc BK288 1); have hcz22_2 : w21.cell? ⟨gb288, 2, none⟩ = some (.int .i64 a0_2) := (bc BK288 2); have hcz22_3 : w21.cell? ⟨gb288, 3, none⟩ = some (.int .i64 a0_3) := (bc BK288 3); have hcz22_4 : w21.cell? ⟨gb288, 4, none⟩ = some (.int .i64 a0_4) := (bc BK288 4); have hcz22_5 : w21.cell? ⟨gb288, 5, none⟩ = some (.int .i64 a0_5) := (bc BK288 5); have hcz22_6 : w21.cell? ⟨gb288, 6, none⟩ = some (.string a0_6) := (bc BK288 6); have hfz22_0 := blk_frozen BK288.out 0; have hfz22_1 := blk_frozen BK288.out 1; have hfz22_2 := blk_frozen BK288.out 2; have hfz22_3 := blk_frozen BK288.out 3; have hfz22_4 := blk_frozen BK288.out 4; have hfz22_5 := blk_frozen BK288.out 5; have hfz22_6 := blk_frozen BK288.out 6) | ((with_reducible refine Go.Proofs.YthhmnecnoojcpaaO.gate_value (F := .tmp 17) rfl ?_); refine Go.Proofs.YthhmnecnoojcpaaO.goesM_ (some 20) rfl rfl Try.func32 (by kernel_rfl) rfl #[.agg #[.slice Ao15 t290.length co15], .int .i64 2, .int .i64 2, .int .i64 a0_3] rfl rfl aa_3 ?_; (with_reducible refine (stat_field_set.calls k (fun k_ => some k_ = (.slice Ao15 t290.length co15 : Value).ownBlock) (.slice Ao15 t290.length co15) t295 2 2 a0_3 t296 w _ ?side1 ?side2 A7.out).mono ?_); (case side1 => exact aa_6); (case side2 => exact Kd.R_tight rfl HO292.out); rintro e w23 ⟨rfl, hy0, hb, hkp⟩; refine ⟨_, rfl, ?_⟩; (try obtain ⟨hlew23_0, hgew23_0⟩ := Go.Proofs.YthhmnecnoojcpaaO.R_lens hy0); have n0_ := am_ (bkept BK288 aa_0 hkp (fun hs_ => (fun e_ => (Kd.R_ne HO292.out BK288.out (by decide)) e_) hs_)); have n1_ := am_ (Kd.R_reok rfl hy0 (fun k_ e_ => HO292.out.1 k_ e_)); have n2_ := am_ (bkept BK293 aa_5 hkp (fun hs_ => (fun e_ => (Kd.R_ne HO292.out BK293.out (by decide)) e_) hs_)); have n3_ := am_ (hb); clear BK288; clear HO292; clear BK293; clear HB; have BK288 := n0_; have HO292 := n1_; have BK293 := n2_; have HB := n3_; clear n0_ n1_ n2_ n3_; (try clear hb); (try clear hkp); (try clear hy0); have hcz24_0 : w23.cell? ⟨gb288, 0, none⟩ = some (.int .i64 a0_0) := (bc BK288 0); have hcz24_1 : w23.cell? ⟨gb288, 1, none⟩ = some (.int .i64 a0_1) := (bc BK288 1); have hcz24_2 : w23.cell? ⟨gb288, 2, none⟩ = some (.int .i64 a0_2) := (bc BK288 2); have hcz24_3 : w23.cell? ⟨gb288, 3, none⟩ = some (.int .i64 a0_3) := (bc BK288 3); have hcz24_4 : w23.cell? ⟨gb288, 4, none⟩ = some (.int .i64 a0_4) := (bc BK288 4); have hcz24_5 : w23.cell? ⟨gb288, 5, none⟩ = some (.int .i64 a0_5) := (bc BK288 5); have hcz24_6 : w23.cell? ⟨gb288, 6, none⟩ = some (.string a0_6) := (bc BK288 6); have hfz24_0 := blk_frozen BK288.out 0; have hfz24_1 := blk_frozen BK288.out 1; have hfz24_2 := blk_frozen BK288.out 2; have hfz24_3 := blk_frozen BK288.out 3; have hfz24_4 := blk_frozen BK288.out 4; have hfz24_5 := blk_frozen BK288.out 5; have hfz24_6 := blk_frozen BK288.out 6) | ((with_reducible refine Go.Proofs.YthhmnecnoojcpaaO.gate_value (F := .tmp 21) rfl ?_); refine Go.Proofs.YthhmnecnoojcpaaO.goesM_ (some 24) rfl rfl Try.func32 (by kernel_rfl) rfl #[.agg #[.slice Ao15 t290.length co15], .int .i64 8, .int .i64 8, .int .i64 a0_4] rfl rfl aa_3 ?_; (with_reducible refine (stat_field_set.calls k (fun k_ => some k_ = (.slice Ao15 t290.length co15 : Value).ownBlock) (.slice Ao15 t290.length co15) t296 8 8 a0_4 t297 w _ ?side1 ?side2 A8.out).mono ?_); (case side1 => exact aa_6); (case side2 => exact Kd.R_tight rfl HO292.out); rintro e w25 ⟨rfl, hy0, hb, hkp⟩; refine ⟨_, rfl, ?_⟩; (try obtain ⟨hlew25_0, hgew25_0⟩ := Go.Proofs.YthhmnecnoojcpaaO.R_lens hy0); have n0_ := am_ (bkept BK288 aa_0 hkp (fun hs_ => (fun e_ => (Kd.R_ne HO292.out BK288.out (by decide)) e_) hs_)); have n1_ := am_ (Kd.R_reok rfl hy0 (fun k_ e_ => HO292.out.1 k_ e_)); have n2_ := am_ (bkept BK293 aa_5 hkp (fun hs_ => (fun e_ => (Kd.R_ne HO292.out BK293.out (by decide)) e_) hs_)); have n3_ := am_ (hb); clear BK288; clear HO292; clear BK293; clear HB; have BK288 := n0_; have HO292 := n1_; have BK293 := n2_; have HB := n3_; clear n0_ n1_ n2_ n3_; (try clear hb); (try clear hkp); (try clear hy0); have hcz26_0 : w25.cell? ⟨gb288, 0, none⟩ = some (.int .i64 a0_0) := (bc BK288 0); have hcz26_1 : w25.cell? ⟨gb288, 1, none⟩ = some (.int .i64 a0_1) := (bc BK288 1); have hcz26_2 : w25.cell? ⟨gb288, 2, none⟩ = some (.int .i64 a0_2) := (bc BK288 2); have hcz26_3 : w25.cell? ⟨gb288, 3, none⟩ = some (.int .i64 a0_3) := (bc BK288 3); have hcz26_4 : w25.cell? ⟨gb288, 4, none⟩ = some (.int .i64 a0_4) := (bc BK288 4); have hcz26_5 : w25.cell? ⟨gb288, 5, none⟩ = some (.int .i64 a0_5) := (bc BK288 5); have hcz26_6 : w25.cell? ⟨gb288, 6, none⟩ = some (.string a0_6) := (bc BK288 6); have hfz26_0 := blk_frozen BK288.out 0; have hfz26_1 := blk_frozen BK288.out 1; have hfz26_2 := blk_frozen BK288.out 2; have hfz26_3 := blk_frozen BK288.out 3; have hfz26_4 := blk_frozen BK288.out 4; have hfz26_5 := blk_frozen BK288.out 5; have hfz26_6 := blk_frozen BK288.out 6) | ((with_reducible refine Go.Proofs.YthhmnecnoojcpaaO.gate_value (F := .tmp 25) rfl ?_); refine Go.Proofs.YthhmnecnoojcpaaO.goesM_ (some 28) rfl rfl Try.func32 (by kernel_rfl) rfl #[.agg #[.slice Ao15 t290.length co15], .int .i64 16, .int .i64 8, .int .i64 a0_5] rfl rfl aa_3 ?_; (with_reducible refine (stat_field_set.calls k (fun k_ => some k_ = (.slice Ao15 t290.length co15 : Value).ownBlock) (.slice Ao15 t290.length co15) t297 16 8 a0_5 t298 w _ ?side1 ?side2 A9.out).mono ?_); (case side1 => exact aa_6); (case side2 => exact Kd.R_tight rfl HO292.out); rintro e w27 ⟨rfl, hy0, hb, hkp⟩; refine ⟨_, rfl, ?_⟩; (try obtain ⟨hlew27_0, hgew27_0⟩ := Go.Proofs.YthhmnecnoojcpaaO.R_lens hy0); have n0_ := am_ (bkept BK288 aa_0 hkp (fun hs_ => (fun e_ => (Kd.R_ne HO292.out BK288.out (by decide)) e_) hs_)); have n1_ := am_ (Kd.R_reok rfl hy0 (fun k_ e_ => HO292.out.1 k_ e_)); have n2_ := am_ (bkept BK293 aa_5 hkp (fun hs_ => (fun e_ => (Kd.R_ne HO292.out BK293.out (by decide)) e_) hs_)); have n3_ := am_ (hb); clear BK288; clear HO292; clear BK293; clear HB; have BK288 := n0_; have HO292 := n1_; have BK293 := n2_; have HB := n3_; clear n0_ n1_ n2_ n3_; (try clear hb); (try clear hkp); (try clear hy0); have hcz28_0 : w27.cell? ⟨gb293, 0, none⟩ = some (.slice Ao15 t290.length co15) := (bc BK293 0); have hfz28_0 := blk_frozen BK293.out 0))
 go_ret2
 exact ⟨_, by first | rfl | (simp [errW_none, errW_some] <;> rfl) | (simp [*, errW_none, errW_some] <;> rfl), by (with_reducible repeat (first | apply Kd.R_alloc | apply Kd.R_drewN | apply Kd.R_drew)); exact HO292.out, by repeat (first | (with_reducible first | exact HB.out | apply below_alloc | apply pw_below_drewN | apply below_drew1 | refine below_set ?_ GE288.out | refine below_set ?_ GE293.out) | exact HB.out)⟩
/-! ### gangwayref17_Kind: function 42 -/
def gangwayref17_Kind.f (a0 : Int) : Option (Bool) := if a0 ≥ 1 then (some (decide (a0 ≤ 5))) else (some false)
set_option maxHeartbeats 8000000 in
set_option maxRecDepth 100000 in
theorem gangwayref17_Kind.calls (a0 : Int) (r : Bool) (w : World) (h : gangwayref17_Kind.f a0 = some r) :
    Calls Try.prog 42 #[.int .i64 a0] w fun e w' => e = .returned (.bool r) ∧ Drawn0 w w' := by
  have H : (if a0 ≥ 1 then (some (decide (a0 ≤ 5))) else (some false)) = some r := h
  clear h
  by_cases c2 : a0 ≥ 1
  · rw [if_pos c2] at H
    have c2b0 : decide (1 ≤ a0) = true := decide_eq_true c2
    clear c2
    obtain rfl := Option.some.inj H
    go_enter Try.func42, Try.ntmps42
    go_wp2
    go_ret
    exact ⟨by first | rfl | (simp; done) | (simp [*]; done), by repeat (first | exact Drawn0.refl _ | apply Drawn0.step)⟩
  · rw [if_neg c2] at H
    have c2b0 : decide (1 ≤ a0) = false := decide_eq_false c2
    clear c2
    obtain rfl := Option.some.inj H
    go_enter Try.func42, Try.ntmps42
    go_wp2
    go_ret
    exact ⟨by first | rfl | (simp; done) | (simp [*]; done), by repeat (first | exact Drawn0.refl _ | apply Drawn0.step)⟩

/-! ### gangwayref17_May: function 43 -/
def gangwayref17_May.f (a0 : Int) : Option (Bool) := if a0 ≥ 0 then (some (decide (a0 ≤ 1073741823))) else (some false)
set_option maxHeartbeats 8000000 in
set_option maxRecDepth 100000 in
theorem gangwayref17_May.calls (a0 : Int) (r : Bool) (w : World) (h : gangwayref17_May.f a0 = some r) :
    Calls Try.prog 43 #[.int .i64 a0] w fun e w' => e = .returned (.bool r) ∧ Drawn0 w w' := by
  have H : (if a0 ≥ 0 then (some (decide (a0 ≤ 1073741823))) else (some false)) = some r := h
  clear h
  by_cases c2 : a0 ≥ 0
  · rw [if_pos c2] at H
    have c2b0 : decide (0 ≤ a0) = true := decide_eq_true c2
    clear c2
    obtain rfl := Option.some.inj H
    go_enter Try.func43, Try.ntmps43
    go_wp2
    go_ret
    exact ⟨by first | rfl | (simp; done) | (simp [*]; done), by repeat (first | exact Drawn0.refl _ | apply Drawn0.step)⟩
  · rw [if_neg c2] at H
    have c2b0 : decide (0 ≤ a0) = false := decide_eq_false c2
    clear c2
    obtain rfl := Option.some.inj H
    go_enter Try.func43, Try.ntmps43
    go_wp2
    go_ret
    exact ⟨by first | rfl | (simp; done) | (simp [*]; done), by repeat (first | exact Drawn0.refl _ | apply Drawn0.step)⟩

/-! ### gangwayref17_MayFd: function 22 -/
abbrev gangwayref17_MayFd.t : Bool := true
abbrev gangwayref17_MayFd.f_ : Bool := false
theorem gangwayref17_MayFd.bc {w : World} {g : Nat} {cs : Array Value} {t : TypeId} (h : Aside0 (w.heap[g]? = some (.cells cs t (0, 0)))) (i : Nat) {v : Value} (e : cs[i]? = some v := by rfl) : w.cell? ⟨g, i, none⟩ = some v := (blk_cell h.out i).trans e
theorem gangwayref17_MayFd.bkept {W0 W W2 : World} {g : Nat} {o : Obj} {S : Nat → Prop} (_b : Aside0 (W0.heap[g]? = some o)) (h : W.heap[g]? = some o) (hk : Kept W W2 S) (hn : ¬ S g) : W2.heap[g]? = some o := blk_kept h hk hn
theorem gangwayref17_MayFd.bbelow {W0 w w1 : World} {g : Nat} {o : Obj} (_b : Aside0 (W0.heap[g]? = some o)) (h : w.heap[g]? = some o) (hb : Below w.heap.size w w1) : w1.heap[g]? = some o := blk_below h hb
theorem gangwayref17_MayFd.e1 {α : Type _} (xs : List α) (i : Nat) (a : α) : xs.toArray.setIfInBounds i a = (xs.set i a).toArray := by simp
theorem gangwayref17_MayFd.e2 {α : Type _} (x a : α) (xs : List α) : (x :: xs).set 0 a = a :: xs := rfl
theorem gangwayref17_MayFd.e3 {α : Type _} (x a : α) (xs : List α) (n : Nat) : (x :: xs).set (n + 1) a = x :: xs.set n a := rfl
def gangwayref17_MayFd.f (a0_0 : Int) (a0_1 : Int) (a0_2 : Int) (a0_3 : Int) (a0_4 : Int) (a0_5 : Int) (a0_6 : ByteArray) : Option (Bool) := (gangwayref17_Kind.f a0_0).bind fun t300 => (if t300 = true then (if a0_1 ≥ 0 then (if a0_1 < 64 then (if a0_2 ≥ 0 then (if a0_2 ≤ 4611686018427387904 then (if a0_3 ≥ 0 then (if a0_3 ≤ 31 then ((gangwayref17_May.f a0_4).bind fun t301 => (if t301 = true then ((gangwayref17_May.f a0_5).bind fun t302 => (if t302 = true then (if a0_0 = 4 then (some true) else (some (a0_6.toList == ([] : List UInt8)))) else (some false))) else (some false))) else (some false)) else (some false)) else (some false)) else (some false)) else (some false)) else (some false)) else (some false))
theorem gangwayref17_MayFd.aa_0 {p : Prop} (h : p := by repeat (first | (with_reducible first | exact HB.out | apply below_alloc | apply pw_below_drewN | apply below_drew1) | exact HB.out)) : p := h
theorem gangwayref17_MayFd.aa_1 {p : Prop} (h : p := by (try simp only [List.map_toArray, List.map_cons, List.map_nil]); first | done | rfl | (simp only [List.length_drop, List.length_take]; rfl)) : p := h
theorem gangwayref17_MayFd.am_ {p : Prop} (h : p) : Aside0 p := Aside0.mk h
theorem gangwayref17_MayFd.bm_ {α β : Type _} {o : Option α} {f : α → Option β} {b : β} (h : o.bind f = some b) : ∃ a, o = some a ∧ f a = some b := Option.bind_eq_some_iff.mp h
set_option maxHeartbeats 8000000 in
set_option maxRecDepth 100000 in
theorem gangwayref17_MayFd.calls (a0_0 : Int) (a0_1 : Int) (a0_2 : Int) (a0_3 : Int) (a0_4 : Int) (a0_5 : Int) (a0_6 : ByteArray) (r : Bool) (w : World) (h : gangwayref17_MayFd.f a0_0 a0_1 a0_2 a0_3 a0_4 a0_5 a0_6 = some r) :
  Calls Try.prog 22 #[.agg #[.int .i64 a0_0, .int .i64 a0_1, .int .i64 a0_2, .int .i64 a0_3, .int .i64 a0_4, .int .i64 a0_5, .string a0_6]] w fun e w' => e = .returned (.bool r) ∧ Below w.heap.size w w' := by
 have hu28 := Try.underlying28
 have HB := am_ (Below.refl w.heap.size w)
 have H : ((gangwayref17_Kind.f a0_0).bind fun t300 => (if t300 = true then (if a0_1 ≥ 0 then (if a0_1 < 64 then (if a0_2 ≥ 0 then (if a0_2 ≤ 4611686018427387904 then (if a0_3 ≥ 0 then (if a0_3 ≤ 31 then ((gangwayref17_May.f a0_4).bind fun t301 => (if t301 = true then ((gangwayref17_May.f a0_5).bind fun t302 => (if t302 = true then (if a0_0 = 4 then (some true) else (some (a0_6.toList == ([] : List UInt8)))) else (some false))) else (some false))) else (some false)) else (some false)) else (some false)) else (some false)) else (some false)) else (some false)) else (some false))) = some r := h
 clear h
 replace H := bm_ H
 obtain ⟨t300, A20, H⟩ := H
 replace H : (if t300 = true then (if a0_1 ≥ 0 then (if a0_1 < 64 then (if a0_2 ≥ 0 then (if a0_2 ≤ 4611686018427387904 then (if a0_3 ≥ 0 then (if a0_3 ≤ 31 then ((gangwayref17_May.f a0_4).bind fun t301 => (if t301 = true then ((gangwayref17_May.f a0_5).bind fun t302 => (if t302 = true then (if a0_0 = 4 then (some true) else (some (a0_6.toList == ([] : List UInt8)))) else (some false))) else (some false))) else (some false)) else (some false)) else (some false)) else (some false)) else (some false)) else (some false)) else (some false)) = some r := H
 have A2 := am_ A20
 clear A20
 by_cases c3 : t300 = true
 rotate_left
 ·replace c3 := Bool.eq_false_iff.mpr c3
  subst c3
  have H1 : (some false) = some r := by rw [if_neg (show ¬ (false = true) by decide)] at H; exact H
  clear H
  have H := H1
  clear H1
  obtain rfl := Option.some.inj H
  go_enter Try.func22, Try.ntmps22
  go_wp2_with (first | ((with_reducible refine gate_dst (N := 1) rfl ?_); refine box_event ?hg (N := 1) ?hd (cs := #[.int .i64 a0_0, .int .i64 a0_1, .int .i64 a0_2, .int .i64 a0_3, .int .i64 a0_4, .int .i64 a0_5, .string a0_6]) (t := 28) ?hr ?_; (case hd => rfl); (case hg => rfl); (case hr => first | (go_simp; done) | (go_simp; rfl)); intro gb299 hg w35 hbox hb; have n0_ := am_ (below_step aa_0 hb); have n1_ := am_ (hbox); have n2_ := am_ ((by rw [hg]; exact (below_size aa_0) : w.heap.size ≤ gb299)); have n3_ := am_ ((by rw [hg]; exact (below_size aa_0) : w.heap.size ≤ gb299)); clear HB; have HB := n0_; have BK299 := n1_; have GW299 := n2_; have GE299 := n3_; clear n0_ n1_ n2_ n3_; clear hb hbox hg; have hcz36_0 : w35.cell? ⟨gb299, 0, none⟩ = some (.int .i64 a0_0) := (bc BK299 0); have hcz36_1 : w35.cell? ⟨gb299, 1, none⟩ = some (.int .i64 a0_1) := (bc BK299 1); have hcz36_2 : w35.cell? ⟨gb299, 2, none⟩ = some (.int .i64 a0_2) := (bc BK299 2); have hcz36_3 : w35.cell? ⟨gb299, 3, none⟩ = some (.int .i64 a0_3) := (bc BK299 3); have hcz36_4 : w35.cell? ⟨gb299, 4, none⟩ = some (.int .i64 a0_4) := (bc BK299 4); have hcz36_5 : w35.cell? ⟨gb299, 5, none⟩ = some (.int .i64 a0_5) := (bc BK299 5); have hcz36_6 : w35.cell? ⟨gb299, 6, none⟩ = some (.string a0_6) := (bc BK299 6); have hfz36_0 := blk_frozen BK299.out 0; have hfz36_1 := blk_frozen BK299.out 1; have hfz36_2 := blk_frozen BK299.out 2; have hfz36_3 := blk_frozen BK299.out 3; have hfz36_4 := blk_frozen BK299.out 4; have hfz36_5 := blk_frozen BK299.out 5; have hfz36_6 := blk_frozen BK299.out 6) | ((with_reducible refine gate_callee (f := 42) rfl ?_); refine goesL_ (some 5) rfl rfl Try.func42 (by kernel_rfl) rfl #[.int .i64 a0_0] rfl aa_1 ?_; (with_reducible refine (gangwayref17_Kind.calls a0_0 false _ A2.out).mono ?_); rintro e w' ⟨rfl, ⟨nd, rfl⟩⟩; refine ⟨_, rfl, ?_⟩))
  go_ret
  exact ⟨by first | rfl | (simp [errW_none, errW_some] <;> rfl) | (simp [*, errW_none, errW_some] <;> rfl), by repeat (first | (with_reducible first | exact HB.out | apply below_alloc | apply pw_below_drewN | apply below_drew1 | refine below_set ?_ GE299.out) | exact HB.out)⟩
 subst c3
 have H1 : (if a0_1 ≥ 0 then (if a0_1 < 64 then (if a0_2 ≥ 0 then (if a0_2 ≤ 4611686018427387904 then (if a0_3 ≥ 0 then (if a0_3 ≤ 31 then ((gangwayref17_May.f a0_4).bind fun t301 => (if t301 = true then ((gangwayref17_May.f a0_5).bind fun t302 => (if t302 = true then (if a0_0 = 4 then (some true) else (some (a0_6.toList == ([] : List UInt8)))) else (some false))) else (some false))) else (some false)) else (some false)) else (some false)) else (some false)) else (some false)) else (some false)) = some r := by rw [if_pos rfl] at H; exact H
 clear H
 have H := H1
 clear H1
 by_cases c4 : a0_1 ≥ 0
 rotate_left
 ·rw [if_neg c4] at H
  have c4b0 : decide (0 ≤ a0_1) = false := decide_eq_false c4
  clear c4
  obtain rfl := Option.some.inj H
  go_enter Try.func22, Try.ntmps22
  go_wp2_with (first | ((with_reducible refine gate_dst (N := 1) rfl ?_); refine box_event ?hg (N := 1) ?hd (cs := #[.int .i64 a0_0, .int .i64 a0_1, .int .i64 a0_2, .int .i64 a0_3, .int .i64 a0_4, .int .i64 a0_5, .string a0_6]) (t := 28) ?hr ?_; (case hd => rfl); (case hg => rfl); (case hr => first | (go_simp; done) | (go_simp; rfl)); intro gb299 hg w33 hbox hb; have n0_ := am_ (below_step aa_0 hb); have n1_ := am_ (hbox); have n2_ := am_ ((by rw [hg]; exact (below_size aa_0) : w.heap.size ≤ gb299)); have n3_ := am_ ((by rw [hg]; exact (below_size aa_0) : w.heap.size ≤ gb299)); clear HB; have HB := n0_; have BK299 := n1_; have GW299 := n2_; have GE299 := n3_; clear n0_ n1_ n2_ n3_; clear hb hbox hg; have hcz34_0 : w33.cell? ⟨gb299, 0, none⟩ = some (.int .i64 a0_0) := (bc BK299 0); have hcz34_1 : w33.cell? ⟨gb299, 1, none⟩ = some (.int .i64 a0_1) := (bc BK299 1); have hcz34_2 : w33.cell? ⟨gb299, 2, none⟩ = some (.int .i64 a0_2) := (bc BK299 2); have hcz34_3 : w33.cell? ⟨gb299, 3, none⟩ = some (.int .i64 a0_3) := (bc BK299 3); have hcz34_4 : w33.cell? ⟨gb299, 4, none⟩ = some (.int .i64 a0_4) := (bc BK299 4); have hcz34_5 : w33.cell? ⟨gb299, 5, none⟩ = some (.int .i64 a0_5) := (bc BK299 5); have hcz34_6 : w33.cell? ⟨gb299, 6, none⟩ = some (.string a0_6) := (bc BK299 6); have hfz34_0 := blk_frozen BK299.out 0; have hfz34_1 := blk_frozen BK299.out 1; have hfz34_2 := blk_frozen BK299.out 2; have hfz34_3 := blk_frozen BK299.out 3; have hfz34_4 := blk_frozen BK299.out 4; have hfz34_5 := blk_frozen BK299.out 5; have hfz34_6 := blk_frozen BK299.out 6) | ((with_reducible refine gate_callee (f := 42) rfl ?_); refine goesL_ (some 5) rfl rfl Try.func42 (by kernel_rfl) rfl #[.int .i64 a0_0] rfl aa_1 ?_; (with_reducible refine (gangwayref17_Kind.calls a0_0 true _ A2.out).mono ?_); rintro e w' ⟨rfl, ⟨nd, rfl⟩⟩; refine ⟨_, rfl, ?_⟩))
  go_ret
  exact ⟨by first | rfl | (simp [errW_none, errW_some] <;> rfl) | (simp [*, errW_none, errW_some] <;> rfl), by repeat (first | (with_reducible first | exact HB.out | apply below_alloc | apply pw_below_drewN | apply below_drew1 | refine below_set ?_ GE299.out) | exact HB.out)⟩
 rw [if_pos c4] at H
 have c4b0 : decide (0 ≤ a0_1) = true := decide_eq_true c4
 clear c4
 by_cases c5 : a0_1 < 64
 rotate_left
 ·rw [if_neg c5] at H
  have c5b0 : decide (a0_1 < 64) = false := decide_eq_false c5
  clear c5
  obtain rfl := Option.some.inj H
  go_enter Try.func22, Try.ntmps22
  go_wp2_with (first | ((with_reducible refine gate_dst (N := 1) rfl ?_); refine box_event ?hg (N := 1) ?hd (cs := #[.int .i64 a0_0, .int .i64 a0_1, .int .i64 a0_2, .int .i64 a0_3, .int .i64 a0_4, .int .i64 a0_5, .string a0_6]) (t := 28) ?hr ?_; (case hd => rfl); (case hg => rfl); (case hr => first | (go_simp; done) | (go_simp; rfl)); intro gb299 hg w31 hbox hb; have n0_ := am_ (below_step aa_0 hb); have n1_ := am_ (hbox); have n2_ := am_ ((by rw [hg]; exact (below_size aa_0) : w.heap.size ≤ gb299)); have n3_ := am_ ((by rw [hg]; exact (below_size aa_0) : w.heap.size ≤ gb299)); clear HB; have HB := n0_; have BK299 := n1_; have GW299 := n2_; have GE299 := n3_; clear n0_ n1_ n2_ n3_; clear hb hbox hg; have hcz32_0 : w31.cell? ⟨gb299, 0, none⟩ = some (.int .i64 a0_0) := (bc BK299 0); have hcz32_1 : w31.cell? ⟨gb299, 1, none⟩ = some (.int .i64 a0_1) := (bc BK299 1); have hcz32_2 : w31.cell? ⟨gb299, 2, none⟩ = some (.int .i64 a0_2) := (bc BK299 2); have hcz32_3 : w31.cell? ⟨gb299, 3, none⟩ = some (.int .i64 a0_3) := (bc BK299 3); have hcz32_4 : w31.cell? ⟨gb299, 4, none⟩ = some (.int .i64 a0_4) := (bc BK299 4); have hcz32_5 : w31.cell? ⟨gb299, 5, none⟩ = some (.int .i64 a0_5) := (bc BK299 5); have hcz32_6 : w31.cell? ⟨gb299, 6, none⟩ = some (.string a0_6) := (bc BK299 6); have hfz32_0 := blk_frozen BK299.out 0; have hfz32_1 := blk_frozen BK299.out 1; have hfz32_2 := blk_frozen BK299.out 2; have hfz32_3 := blk_frozen BK299.out 3; have hfz32_4 := blk_frozen BK299.out 4; have hfz32_5 := blk_frozen BK299.out 5; have hfz32_6 := blk_frozen BK299.out 6) | ((with_reducible refine gate_callee (f := 42) rfl ?_); refine goesL_ (some 5) rfl rfl Try.func42 (by kernel_rfl) rfl #[.int .i64 a0_0] rfl aa_1 ?_; (with_reducible refine (gangwayref17_Kind.calls a0_0 true _ A2.out).mono ?_); rintro e w' ⟨rfl, ⟨nd, rfl⟩⟩; refine ⟨_, rfl, ?_⟩))
  go_ret
  exact ⟨by first | rfl | (simp [errW_none, errW_some] <;> rfl) | (simp [*, errW_none, errW_some] <;> rfl), by repeat (first | (with_reducible first | exact HB.out | apply below_alloc | apply pw_below_drewN | apply below_drew1 | refine below_set ?_ GE299.out) | exact HB.out)⟩
 rw [if_pos c5] at H
 have c5b0 : decide (a0_1 < 64) = true := decide_eq_true c5
 clear c5
 by_cases c6 : a0_2 ≥ 0
 rotate_left
 ·rw [if_neg c6] at H
  have c6b0 : decide (0 ≤ a0_2) = false := decide_eq_false c6
  clear c6
  obtain rfl := Option.some.inj H
  go_enter Try.func22, Try.ntmps22
  go_wp2_with (first | ((with_reducible refine gate_dst (N := 1) rfl ?_); refine box_event ?hg (N := 1) ?hd (cs := #[.int .i64 a0_0, .int .i64 a0_1, .int .i64 a0_2, .int .i64 a0_3, .int .i64 a0_4, .int .i64 a0_5, .string a0_6]) (t := 28) ?hr ?_; (case hd => rfl); (case hg => rfl); (case hr => first | (go_simp; done) | (go_simp; rfl)); intro gb299 hg w29 hbox hb; have n0_ := am_ (below_step aa_0 hb); have n1_ := am_ (hbox); have n2_ := am_ ((by rw [hg]; exact (below_size aa_0) : w.heap.size ≤ gb299)); have n3_ := am_ ((by rw [hg]; exact (below_size aa_0) : w.heap.size ≤ gb299)); clear HB; have HB := n0_; have BK299 := n1_; have GW299 := n2_; have GE299 := n3_; clear n0_ n1_ n2_ n3_; clear hb hbox hg; have hcz30_0 : w29.cell? ⟨gb299, 0, none⟩ = some (.int .i64 a0_0) := (bc BK299 0); have hcz30_1 : w29.cell? ⟨gb299, 1, none⟩ = some (.int .i64 a0_1) := (bc BK299 1); have hcz30_2 : w29.cell? ⟨gb299, 2, none⟩ = some (.int .i64 a0_2) := (bc BK299 2); have hcz30_3 : w29.cell? ⟨gb299, 3, none⟩ = some (.int .i64 a0_3) := (bc BK299 3); have hcz30_4 : w29.cell? ⟨gb299, 4, none⟩ = some (.int .i64 a0_4) := (bc BK299 4); have hcz30_5 : w29.cell? ⟨gb299, 5, none⟩ = some (.int .i64 a0_5) := (bc BK299 5); have hcz30_6 : w29.cell? ⟨gb299, 6, none⟩ = some (.string a0_6) := (bc BK299 6); have hfz30_0 := blk_frozen BK299.out 0; have hfz30_1 := blk_frozen BK299.out 1; have hfz30_2 := blk_frozen BK299.out 2; have hfz30_3 := blk_frozen BK299.out 3; have hfz30_4 := blk_frozen BK299.out 4; have hfz30_5 := blk_frozen BK299.out 5; have hfz30_6 := blk_frozen BK299.out 6) | ((with_reducible refine gate_callee (f := 42) rfl ?_); refine goesL_ (some 5) rfl rfl Try.func42 (by kernel_rfl) rfl #[.int .i64 a0_0] rfl aa_1 ?_; (with_reducible refine (gangwayref17_Kind.calls a0_0 true _ A2.out).mono ?_); rintro e w' ⟨rfl, ⟨nd, rfl⟩⟩; refine ⟨_, rfl, ?_⟩))
  go_ret
  exact ⟨by first | rfl | (simp [errW_none, errW_some] <;> rfl) | (simp [*, errW_none, errW_some] <;> rfl), by repeat (first | (with_reducible first | exact HB.out | apply below_alloc | apply pw_below_drewN | apply below_drew1 | refine below_set ?_ GE299.out) | exact HB.out)⟩
 rw [if_pos c6] at H
 have c6b0 : decide (0 ≤ a0_2) = true := decide_eq_true c6
 clear c6
 by_cases c7 : a0_2 ≤ 4611686018427387904
 rotate_left
 ·rw [if_neg c7] at H
  have c7b0 : decide (a0_2 ≤ 4611686018427387904) = false := decide_eq_false c7
  clear c7
  obtain rfl := Option.some.inj H
  go_enter Try.func22, Try.ntmps22
  go_wp2_with (first | ((with_reducible refine gate_dst (N := 1) rfl ?_); refine box_event ?hg (N := 1) ?hd (cs := #[.int .i64 a0_0, .int .i64 a0_1, .int .i64 a0_2, .int .i64 a0_3, .int .i64 a0_4, .int .i64 a0_5, .string a0_6]) (t := 28) ?hr ?_; (case hd => rfl); (case hg => rfl); (case hr => first | (go_simp; done) | (go_simp; rfl)); intro gb299 hg w27 hbox hb; have n0_ := am_ (below_step aa_0 hb); have n1_ := am_ (hbox); have n2_ := am_ ((by rw [hg]; exact (below_size aa_0) : w.heap.size ≤ gb299)); have n3_ := am_ ((by rw [hg]; exact (below_size aa_0) : w.heap.size ≤ gb299)); clear HB; have HB := n0_; have BK299 := n1_; have GW299 := n2_; have GE299 := n3_; clear n0_ n1_ n2_ n3_; clear hb hbox hg; have hcz28_0 : w27.cell? ⟨gb299, 0, none⟩ = some (.int .i64 a0_0) := (bc BK299 0); have hcz28_1 : w27.cell? ⟨gb299, 1, none⟩ = some (.int .i64 a0_1) := (bc BK299 1); have hcz28_2 : w27.cell? ⟨gb299, 2, none⟩ = some (.int .i64 a0_2) := (bc BK299 2); have hcz28_3 : w27.cell? ⟨gb299, 3, none⟩ = some (.int .i64 a0_3) := (bc BK299 3); have hcz28_4 : w27.cell? ⟨gb299, 4, none⟩ = some (.int .i64 a0_4) := (bc BK299 4); have hcz28_5 : w27.cell? ⟨gb299, 5, none⟩ = some (.int .i64 a0_5) := (bc BK299 5); have hcz28_6 : w27.cell? ⟨gb299, 6, none⟩ = some (.string a0_6) := (bc BK299 6); have hfz28_0 := blk_frozen BK299.out 0; have hfz28_1 := blk_frozen BK299.out 1; have hfz28_2 := blk_frozen BK299.out 2; have hfz28_3 := blk_frozen BK299.out 3; have hfz28_4 := blk_frozen BK299.out 4; have hfz28_5 := blk_frozen BK299.out 5; have hfz28_6 := blk_frozen BK299.out 6) | ((with_reducible refine gate_callee (f := 42) rfl ?_); refine goesL_ (some 5) rfl rfl Try.func42 (by kernel_rfl) rfl #[.int .i64 a0_0] rfl aa_1 ?_; (with_reducible refine (gangwayref17_Kind.calls a0_0 true _ A2.out).mono ?_); rintro e w' ⟨rfl, ⟨nd, rfl⟩⟩; refine ⟨_, rfl, ?_⟩))
  go_ret
  exact ⟨by first | rfl | (simp [errW_none, errW_some] <;> rfl) | (simp [*, errW_none, errW_some] <;> rfl), by repeat (first | (with_reducible first | exact HB.out | apply below_alloc | apply pw_below_drewN | apply below_drew1 | refine below_set ?_ GE299.out) | exact HB.out)⟩
 rw [if_pos c7] at H
 have c7b0 : decide (a0_2 ≤ 4611686018427387904) = true := decide_eq_true c7
 clear c7
 by_cases c8 : a0_3 ≥ 0
 rotate_left
 ·rw [if_neg c8] at H
  have c8b0 : decide (0 ≤ a0_3) = false := decide_eq_false c8
  clear c8
  obtain rfl := Option.some.inj H
  go_enter Try.func22, Try.ntmps22
  go_wp2_with (first | ((with_reducible refine gate_dst (N := 1) rfl ?_); refine box_event ?hg (N := 1) ?hd (cs := #[.int .i64 a0_0, .int .i64 a0_1, .int .i64 a0_2, .int .i64 a0_3, .int .i64 a0_4, .int .i64 a0_5, .string a0_6]) (t := 28) ?hr ?_; (case hd => rfl); (case hg => rfl); (case hr => first | (go_simp; done) | (go_simp; rfl)); intro gb299 hg w25 hbox hb; have n0_ := am_ (below_step aa_0 hb); have n1_ := am_ (hbox); have n2_ := am_ ((by rw [hg]; exact (below_size aa_0) : w.heap.size ≤ gb299)); have n3_ := am_ ((by rw [hg]; exact (below_size aa_0) : w.heap.size ≤ gb299)); clear HB; have HB := n0_; have BK299 := n1_; have GW299 := n2_; have GE299 := n3_; clear n0_ n1_ n2_ n3_; clear hb hbox hg; have hcz26_0 : w25.cell? ⟨gb299, 0, none⟩ = some (.int .i64 a0_0) := (bc BK299 0); have hcz26_1 : w25.cell? ⟨gb299, 1, none⟩ = some (.int .i64 a0_1) := (bc BK299 1); have hcz26_2 : w25.cell? ⟨gb299, 2, none⟩ = some (.int .i64 a0_2) := (bc BK299 2); have hcz26_3 : w25.cell? ⟨gb299, 3, none⟩ = some (.int .i64 a0_3) := (bc BK299 3); have hcz26_4 : w25.cell? ⟨gb299, 4, none⟩ = some (.int .i64 a0_4) := (bc BK299 4); have hcz26_5 : w25.cell? ⟨gb299, 5, none⟩ = some (.int .i64 a0_5) := (bc BK299 5); have hcz26_6 : w25.cell? ⟨gb299, 6, none⟩ = some (.string a0_6) := (bc BK299 6); have hfz26_0 := blk_frozen BK299.out 0; have hfz26_1 := blk_frozen BK299.out 1; have hfz26_2 := blk_frozen BK299.out 2; have hfz26_3 := blk_frozen BK299.out 3; have hfz26_4 := blk_frozen BK299.out 4; have hfz26_5 := blk_frozen BK299.out 5; have hfz26_6 := blk_frozen BK299.out 6) | ((with_reducible refine gate_callee (f := 42) rfl ?_); refine goesL_ (some 5) rfl rfl Try.func42 (by kernel_rfl) rfl #[.int .i64 a0_0] rfl aa_1 ?_; (with_reducible refine (gangwayref17_Kind.calls a0_0 true _ A2.out).mono ?_); rintro e w' ⟨rfl, ⟨nd, rfl⟩⟩; refine ⟨_, rfl, ?_⟩))
  go_ret
  exact ⟨by first | rfl | (simp [errW_none, errW_some] <;> rfl) | (simp [*, errW_none, errW_some] <;> rfl), by repeat (first | (with_reducible first | exact HB.out | apply below_alloc | apply pw_below_drewN | apply below_drew1 | refine below_set ?_ GE299.out) | exact HB.out)⟩
 rw [if_pos c8] at H
 have c8b0 : decide (0 ≤ a0_3) = true := decide_eq_true c8
 clear c8
 by_cases c9 : a0_3 ≤ 31
 rotate_left
 ·rw [if_neg c9] at H
  have c9b0 : decide (a0_3 ≤ 31) = false := decide_eq_false c9
  clear c9
  obtain rfl := Option.some.inj H
  go_enter Try.func22, Try.ntmps22
  go_wp2_with (first | ((with_reducible refine gate_dst (N := 1) rfl ?_); refine box_event ?hg (N := 1) ?hd (cs := #[.int .i64 a0_0, .int .i64 a0_1, .int .i64 a0_2, .int .i64 a0_3, .int .i64 a0_4, .int .i64 a0_5, .string a0_6]) (t := 28) ?hr ?_; (case hd => rfl); (case hg => rfl); (case hr => first | (go_simp; done) | (go_simp; rfl)); intro gb299 hg w23 hbox hb; have n0_ := am_ (below_step aa_0 hb); have n1_ := am_ (hbox); have n2_ := am_ ((by rw [hg]; exact (below_size aa_0) : w.heap.size ≤ gb299)); have n3_ := am_ ((by rw [hg]; exact (below_size aa_0) : w.heap.size ≤ gb299)); clear HB; have HB := n0_; have BK299 := n1_; have GW299 := n2_; have GE299 := n3_; clear n0_ n1_ n2_ n3_; clear hb hbox hg; have hcz24_0 : w23.cell? ⟨gb299, 0, none⟩ = some (.int .i64 a0_0) := (bc BK299 0); have hcz24_1 : w23.cell? ⟨gb299, 1, none⟩ = some (.int .i64 a0_1) := (bc BK299 1); have hcz24_2 : w23.cell? ⟨gb299, 2, none⟩ = some (.int .i64 a0_2) := (bc BK299 2); have hcz24_3 : w23.cell? ⟨gb299, 3, none⟩ = some (.int .i64 a0_3) := (bc BK299 3); have hcz24_4 : w23.cell? ⟨gb299, 4, none⟩ = some (.int .i64 a0_4) := (bc BK299 4); have hcz24_5 : w23.cell? ⟨gb299, 5, none⟩ = some (.int .i64 a0_5) := (bc BK299 5); have hcz24_6 : w23.cell? ⟨gb299, 6, none⟩ = some (.string a0_6) := (bc BK299 6); have hfz24_0 := blk_frozen BK299.out 0; have hfz24_1 := blk_frozen BK299.out 1; have hfz24_2 := blk_frozen BK299.out 2; have hfz24_3 := blk_frozen BK299.out 3; have hfz24_4 := blk_frozen BK299.out 4; have hfz24_5 := blk_frozen BK299.out 5; have hfz24_6 := blk_frozen BK299.out 6) | ((with_reducible refine gate_callee (f := 42) rfl ?_); refine goesL_ (some 5) rfl rfl Try.func42 (by kernel_rfl) rfl #[.int .i64 a0_0] rfl aa_1 ?_; (with_reducible refine (gangwayref17_Kind.calls a0_0 true _ A2.out).mono ?_); rintro e w' ⟨rfl, ⟨nd, rfl⟩⟩; refine ⟨_, rfl, ?_⟩))
  go_ret
  exact ⟨by first | rfl | (simp [errW_none, errW_some] <;> rfl) | (simp [*, errW_none, errW_some] <;> rfl), by repeat (first | (with_reducible first | exact HB.out | apply below_alloc | apply pw_below_drewN | apply below_drew1 | refine below_set ?_ GE299.out) | exact HB.out)⟩
 rw [if_pos c9] at H
 have c9b0 : decide (a0_3 ≤ 31) = true := decide_eq_true c9
 clear c9
 replace H := bm_ H
 obtain ⟨t301, A100, H⟩ := H
 replace H : (if t301 = true then ((gangwayref17_May.f a0_5).bind fun t302 => (if t302 = true then (if a0_0 = 4 then (some true) else (some (a0_6.toList == ([] : List UInt8)))) else (some false))) else (some false)) = some r := H
 have A10 := am_ A100
 clear A100
 by_cases c11 : t301 = true
 rotate_left
 ·replace c11 := Bool.eq_false_iff.mpr c11
  subst c11
  have H1 : (some false) = some r := by rw [if_neg (show ¬ (false = true) by decide)] at H; exact H
  clear H
  have H := H1
  clear H1
  obtain rfl := Option.some.inj H
  go_enter Try.func22, Try.ntmps22
  go_wp2_with (first | ((with_reducible refine gate_dst (N := 1) rfl ?_); refine box_event ?hg (N := 1) ?hd (cs := #[.int .i64 a0_0, .int .i64 a0_1, .int .i64 a0_2, .int .i64 a0_3, .int .i64 a0_4, .int .i64 a0_5, .string a0_6]) (t := 28) ?hr ?_; (case hd => rfl); (case hg => rfl); (case hr => first | (go_simp; done) | (go_simp; rfl)); intro gb299 hg w21 hbox hb; have n0_ := am_ (below_step aa_0 hb); have n1_ := am_ (hbox); have n2_ := am_ ((by rw [hg]; exact (below_size aa_0) : w.heap.size ≤ gb299)); have n3_ := am_ ((by rw [hg]; exact (below_size aa_0) : w.heap.size ≤ gb299)); clear HB; have HB := n0_; have BK299 := n1_; have GW299 := n2_; have GE299 := n3_; clear n0_ n1_ n2_ n3_; clear hb hbox hg; have hcz22_0 : w21.cell? ⟨gb299, 0, none⟩ = some (.int .i64 a0_0) := (bc BK299 0); have hcz22_1 : w21.cell? ⟨gb299, 1, none⟩ = some (.int .i64 a0_1) := (bc BK299 1); have hcz22_2 : w21.cell? ⟨gb299, 2, none⟩ = some (.int .i64 a0_2) := (bc BK299 2); have hcz22_3 : w21.cell? ⟨gb299, 3, none⟩ = some (.int .i64 a0_3) := (bc BK299 3); have hcz22_4 : w21.cell? ⟨gb299, 4, none⟩ = some (.int .i64 a0_4) := (bc BK299 4); have hcz22_5 : w21.cell? ⟨gb299, 5, none⟩ = some (.int .i64 a0_5) := (bc BK299 5); have hcz22_6 : w21.cell? ⟨gb299, 6, none⟩ = some (.string a0_6) := (bc BK299 6); have hfz22_0 := blk_frozen BK299.out 0; have hfz22_1 := blk_frozen BK299.out 1; have hfz22_2 := blk_frozen BK299.out 2; have hfz22_3 := blk_frozen BK299.out 3; have hfz22_4 := blk_frozen BK299.out 4; have hfz22_5 := blk_frozen BK299.out 5; have hfz22_6 := blk_frozen BK299.out 6) | ((with_reducible refine gate_callee (f := 42) rfl ?_); refine goesL_ (some 5) rfl rfl Try.func42 (by kernel_rfl) rfl #[.int .i64 a0_0] rfl aa_1 ?_; (with_reducible refine (gangwayref17_Kind.calls a0_0 true _ A2.out).mono ?_); rintro e w' ⟨rfl, ⟨nd, rfl⟩⟩; refine ⟨_, rfl, ?_⟩) | (go_at_call 43; (with_reducible refine (gangwayref17_May.calls a0_4 false _ A10.out).mono ?_); rintro e w' ⟨rfl, ⟨nd, rfl⟩⟩))
  go_ret
  exact ⟨by first | rfl | (simp [errW_none, errW_some] <;> rfl) | (simp [*, errW_none, errW_some] <;> rfl), by repeat (first | (with_reducible first | exact HB.out | apply below_alloc | apply pw_below_drewN | apply below_drew1 | refine below_set ?_ GE299.out) | exact HB.out)⟩
 subst c11
 have H1 : ((gangwayref17_May.f a0_5).bind fun t302 => (if t302 = true then (if a0_0 = 4 then (some true) else (some (a0_6.toList == ([] : List UInt8)))) else (some false))) = some r := by rw [if_pos rfl] at H; exact H
 clear H
 have H := H1
 clear H1
 replace H := bm_ H
 obtain ⟨t302, A120, H⟩ := H
 replace H : (if t302 = true then (if a0_0 = 4 then (some true) else (some (a0_6.toList == ([] : List UInt8)))) else (some false)) = some r := H
 have A12 := am_ A120
 clear A120
 by_cases c13 : t302 = true
 rotate_left
 ·replace c13 := Bool.eq_false_iff.mpr c13
  subst c13
  have H1 : (some false) = some r := by rw [if_neg (show ¬ (false = true) by decide)] at H; exact H
  clear H
  have H := H1
  clear H1
  obtain rfl := Option.some.inj H
  go_enter Try.func22, Try.ntmps22
  go_wp2_with (first | ((with_reducible refine gate_dst (N := 1) rfl ?_); refine box_event ?hg (N := 1) ?hd (cs := #[.int .i64 a0_0, .int .i64 a0_1, .int .i64 a0_2, .int .i64 a0_3, .int .i64 a0_4, .int .i64 a0_5, .string a0_6]) (t := 28) ?hr ?_; (case hd => rfl); (case hg => rfl); (case hr => first | (go_simp; done) | (go_simp; rfl)); intro gb299 hg w19 hbox hb; have n0_ := am_ (below_step aa_0 hb); have n1_ := am_ (hbox); have n2_ := am_ ((by rw [hg]; exact (below_size aa_0) : w.heap.size ≤ gb299)); have n3_ := am_ ((by rw [hg]; exact (below_size aa_0) : w.heap.size ≤ gb299)); clear HB; have HB := n0_; have BK299 := n1_; have GW299 := n2_; have GE299 := n3_; clear n0_ n1_ n2_ n3_; clear hb hbox hg; have hcz20_0 : w19.cell? ⟨gb299, 0, none⟩ = some (.int .i64 a0_0) := (bc BK299 0); have hcz20_1 : w19.cell? ⟨gb299, 1, none⟩ = some (.int .i64 a0_1) := (bc BK299 1); have hcz20_2 : w19.cell? ⟨gb299, 2, none⟩ = some (.int .i64 a0_2) := (bc BK299 2); have hcz20_3 : w19.cell? ⟨gb299, 3, none⟩ = some (.int .i64 a0_3) := (bc BK299 3); have hcz20_4 : w19.cell? ⟨gb299, 4, none⟩ = some (.int .i64 a0_4) := (bc BK299 4); have hcz20_5 : w19.cell? ⟨gb299, 5, none⟩ = some (.int .i64 a0_5) := (bc BK299 5); have hcz20_6 : w19.cell? ⟨gb299, 6, none⟩ = some (.string a0_6) := (bc BK299 6); have hfz20_0 := blk_frozen BK299.out 0; have hfz20_1 := blk_frozen BK299.out 1; have hfz20_2 := blk_frozen BK299.out 2; have hfz20_3 := blk_frozen BK299.out 3; have hfz20_4 := blk_frozen BK299.out 4; have hfz20_5 := blk_frozen BK299.out 5; have hfz20_6 := blk_frozen BK299.out 6) | ((with_reducible refine gate_callee (f := 42) rfl ?_); refine goesL_ (some 5) rfl rfl Try.func42 (by kernel_rfl) rfl #[.int .i64 a0_0] rfl aa_1 ?_; (with_reducible refine (gangwayref17_Kind.calls a0_0 true _ A2.out).mono ?_); rintro e w' ⟨rfl, ⟨nd, rfl⟩⟩; refine ⟨_, rfl, ?_⟩) | (go_at_call 43; (with_reducible refine (gangwayref17_May.calls a0_4 true _ A10.out).mono ?_); rintro e w' ⟨rfl, ⟨nd, rfl⟩⟩) | (go_at_call 43; (with_reducible refine (gangwayref17_May.calls a0_5 false _ A12.out).mono ?_); rintro e w' ⟨rfl, ⟨nd, rfl⟩⟩))
  go_ret
  exact ⟨by first | rfl | (simp [errW_none, errW_some] <;> rfl) | (simp [*, errW_none, errW_some] <;> rfl), by repeat (first | (with_reducible first | exact HB.out | apply below_alloc | apply pw_below_drewN | apply below_drew1 | refine below_set ?_ GE299.out) | exact HB.out)⟩
 subst c13
 have H1 : (if a0_0 = 4 then (some true) else (some (a0_6.toList == ([] : List UInt8)))) = some r := by rw [if_pos rfl] at H; exact H
 clear H
 have H := H1
 clear H1
 by_cases c14 : a0_0 = 4
 ·rw [if_pos c14] at H
  have c14b0 : (a0_0 == 4) = true := beq_iff_eq.mpr c14
  have c14b1 : (a0_0 != 4) = false := bne_eq_false_iff_eq.mpr c14
  clear c14
  obtain rfl := Option.some.inj H
  go_enter Try.func22, Try.ntmps22
  go_wp2_with (first | ((with_reducible refine gate_dst (N := 1) rfl ?_); refine box_event ?hg (N := 1) ?hd (cs := #[.int .i64 a0_0, .int .i64 a0_1, .int .i64 a0_2, .int .i64 a0_3, .int .i64 a0_4, .int .i64 a0_5, .string a0_6]) (t := 28) ?hr ?_; (case hd => rfl); (case hg => rfl); (case hr => first | (go_simp; done) | (go_simp; rfl)); intro gb299 hg w15 hbox hb; have n0_ := am_ (below_step aa_0 hb); have n1_ := am_ (hbox); have n2_ := am_ ((by rw [hg]; exact (below_size aa_0) : w.heap.size ≤ gb299)); have n3_ := am_ ((by rw [hg]; exact (below_size aa_0) : w.heap.size ≤ gb299)); clear HB; have HB := n0_; have BK299 := n1_; have GW299 := n2_; have GE299 := n3_; clear n0_ n1_ n2_ n3_; clear hb hbox hg; have hcz16_0 : w15.cell? ⟨gb299, 0, none⟩ = some (.int .i64 a0_0) := (bc BK299 0); have hcz16_1 : w15.cell? ⟨gb299, 1, none⟩ = some (.int .i64 a0_1) := (bc BK299 1); have hcz16_2 : w15.cell? ⟨gb299, 2, none⟩ = some (.int .i64 a0_2) := (bc BK299 2); have hcz16_3 : w15.cell? ⟨gb299, 3, none⟩ = some (.int .i64 a0_3) := (bc BK299 3); have hcz16_4 : w15.cell? ⟨gb299, 4, none⟩ = some (.int .i64 a0_4) := (bc BK299 4); have hcz16_5 : w15.cell? ⟨gb299, 5, none⟩ = some (.int .i64 a0_5) := (bc BK299 5); have hcz16_6 : w15.cell? ⟨gb299, 6, none⟩ = some (.string a0_6) := (bc BK299 6); have hfz16_0 := blk_frozen BK299.out 0; have hfz16_1 := blk_frozen BK299.out 1; have hfz16_2 := blk_frozen BK299.out 2; have hfz16_3 := blk_frozen BK299.out 3; have hfz16_4 := blk_frozen BK299.out 4; have hfz16_5 := blk_frozen BK299.out 5; have hfz16_6 := blk_frozen BK299.out 6) | ((with_reducible refine gate_callee (f := 42) rfl ?_); refine goesL_ (some 5) rfl rfl Try.func42 (by kernel_rfl) rfl #[.int .i64 a0_0] rfl aa_1 ?_; (with_reducible refine (gangwayref17_Kind.calls a0_0 true _ A2.out).mono ?_); rintro e w' ⟨rfl, ⟨nd, rfl⟩⟩; refine ⟨_, rfl, ?_⟩) | (go_at_call 43; (with_reducible refine (gangwayref17_May.calls a0_4 true _ A10.out).mono ?_); rintro e w' ⟨rfl, ⟨nd, rfl⟩⟩) | (go_at_call 43; (with_reducible refine (gangwayref17_May.calls a0_5 true _ A12.out).mono ?_); rintro e w' ⟨rfl, ⟨nd, rfl⟩⟩))
  go_ret
  exact ⟨by first | rfl | (simp [errW_none, errW_some] <;> rfl) | (simp [*, errW_none, errW_some] <;> rfl), by repeat (first | (with_reducible first | exact HB.out | apply below_alloc | apply pw_below_drewN | apply below_drew1 | refine below_set ?_ GE299.out) | exact HB.out)⟩
 rw [if_neg c14] at H
 have c14b0 : (a0_0 == 4) = false := beq_eq_false_iff_ne.mpr c14
 have c14b1 : (a0_0 != 4) = true := bne_iff_ne.mpr c14
 obtain rfl := Option.some.inj H
 go_enter Try.func22, Try.ntmps22
 go_wp2_with (first | ((with_reducible refine gate_dst (N := 1) rfl ?_); refine box_event ?hg (N := 1) ?hd (cs := #[.int .i64 a0_0, .int .i64 a0_1, .int .i64 a0_2, .int .i64 a0_3, .int .i64 a0_4, .int .i64 a0_5, .string a0_6]) (t := 28) ?hr ?_; (case hd => rfl); (case hg => rfl); (case hr => first | (go_simp; done) | (go_simp; rfl)); intro gb299 hg w17 hbox hb; have n0_ := am_ (below_step aa_0 hb); have n1_ := am_ (hbox); have n2_ := am_ ((by rw [hg]; exact (below_size aa_0) : w.heap.size ≤ gb299)); have n3_ := am_ ((by rw [hg]; exact (below_size aa_0) : w.heap.size ≤ gb299)); clear HB; have HB := n0_; have BK299 := n1_; have GW299 := n2_; have GE299 := n3_; clear n0_ n1_ n2_ n3_; clear hb hbox hg; have hcz18_0 : w17.cell? ⟨gb299, 0, none⟩ = some (.int .i64 a0_0) := (bc BK299 0); have hcz18_1 : w17.cell? ⟨gb299, 1, none⟩ = some (.int .i64 a0_1) := (bc BK299 1); have hcz18_2 : w17.cell? ⟨gb299, 2, none⟩ = some (.int .i64 a0_2) := (bc BK299 2); have hcz18_3 : w17.cell? ⟨gb299, 3, none⟩ = some (.int .i64 a0_3) := (bc BK299 3); have hcz18_4 : w17.cell? ⟨gb299, 4, none⟩ = some (.int .i64 a0_4) := (bc BK299 4); have hcz18_5 : w17.cell? ⟨gb299, 5, none⟩ = some (.int .i64 a0_5) := (bc BK299 5); have hcz18_6 : w17.cell? ⟨gb299, 6, none⟩ = some (.string a0_6) := (bc BK299 6); have hfz18_0 := blk_frozen BK299.out 0; have hfz18_1 := blk_frozen BK299.out 1; have hfz18_2 := blk_frozen BK299.out 2; have hfz18_3 := blk_frozen BK299.out 3; have hfz18_4 := blk_frozen BK299.out 4; have hfz18_5 := blk_frozen BK299.out 5; have hfz18_6 := blk_frozen BK299.out 6) | ((with_reducible refine gate_callee (f := 42) rfl ?_); refine goesL_ (some 5) rfl rfl Try.func42 (by kernel_rfl) rfl #[.int .i64 a0_0] rfl aa_1 ?_; (with_reducible refine (gangwayref17_Kind.calls a0_0 true _ A2.out).mono ?_); rintro e w' ⟨rfl, ⟨nd, rfl⟩⟩; refine ⟨_, rfl, ?_⟩) | (go_at_call 43; (with_reducible refine (gangwayref17_May.calls a0_4 true _ A10.out).mono ?_); rintro e w' ⟨rfl, ⟨nd, rfl⟩⟩) | (go_at_call 43; (with_reducible refine (gangwayref17_May.calls a0_5 true _ A12.out).mono ?_); rintro e w' ⟨rfl, ⟨nd, rfl⟩⟩))
 go_ret
 exact ⟨by first | rfl | (simp [errW_none, errW_some] <;> rfl) | (simp [*, errW_none, errW_some] <;> rfl), by repeat (first | (with_reducible first | exact HB.out | apply below_alloc | apply pw_below_drewN | apply below_drew1 | refine below_set ?_ GE299.out) | exact HB.out)⟩
end Go.Proofs.Ythhmnecnoojcpaa.PAll
