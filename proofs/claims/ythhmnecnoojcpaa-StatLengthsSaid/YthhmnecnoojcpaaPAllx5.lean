/- Printed by a copy of the printer that was turned for this claim: functions as plain Lean functions, with proofs that their calls come to these; or words that such proofs use. -/
import Derived.Test.YthhmnecnoojcpaaPAllx0
import Derived.Test.YthhmnecnoojcpaaPAllx2
import Derived.Test.YthhmnecnoojcpaaPAllx3
namespace Go.Proofs.Ythhmnecnoojcpaa.PAll
open Go.RowKit Go.Proofs.YthhmnecnoojcpaaW.PrintWords Go.Proofs.YthhmnecnoojcpaaW.PrintLast Go.Proofs.YthhmnecnoojcpaaW.PrintMore
attribute [local go_sem] max2_int min2_int max_two min_two max_three min_three max_four min_four   -- for this text's walks alone
set_option linter.unusedVariables false
set_option linter.unusedSimpArgs false

/-! ### gangwaylaw20_heavy: function 15 -/
def gangwaylaw20_heavy.f (a0_0 : Int) (a0_1 : Int) (a0_2 : Int) (a0_3 : Int) (a0_4 : Int) (a0_5 : Int) (a0_6 : ByteArray) (a0_7 : Int) (l0_8 : List Int) (l0_9 : List (S93)) (a0_10 : ByteArray) (a0_11 : Int) (a0_12 : Int) (a0_13 : Int) (a0_14 : ByteArray) (a0_15 : Int) (a0_16 : Int) (a0_17 : Int) (a0_18 : Int) (a0_19 : Int) (a0_20 : Int) (a0_21 : Int) (l0_22 : List Int) : Option (Bool) := some (decide ((wrap64 ((wrap64 ((wrap64 ((wrap64 ((l0_8.length : Int) + (a0_10.size : Int))) + (a0_14.size : Int))) + (l0_22.length : Int))) + (wrap64 (20 * (l0_9.length : Int))))) > 5000))
set_option maxHeartbeats 8000000 in
set_option maxRecDepth 100000 in
theorem gangwaylaw20_heavy.calls (a0_0 : Int) (a0_1 : Int) (a0_2 : Int) (a0_3 : Int) (a0_4 : Int) (a0_5 : Int) (a0_6 : ByteArray) (a0_7 : Int) (A0_8 : Option Addr) (c0_8 : Nat) (l0_8 : List Int) (A0_9 : Option Addr) (c0_9 : Nat) (l0_9 : List (S93)) (a0_10 : ByteArray) (a0_11 : Int) (a0_12 : Int) (a0_13 : Int) (a0_14 : ByteArray) (a0_15 : Int) (a0_16 : Int) (a0_17 : Int) (a0_18 : Int) (a0_19 : Int) (a0_20 : Int) (a0_21 : Int) (A0_22 : Option Addr) (c0_22 : Nat) (l0_22 : List Int) (r : Bool) (w : World) (hr0_8 : Kd.C (Kd.int .u8) w A0_8 l0_8.length l0_8) (hc0_8 : l0_8.length ≤ c0_8) (hr0_9 : Kd.C k93 w A0_9 l0_9.length l0_9) (hc0_9 : l0_9.length ≤ c0_9) (hr0_22 : Kd.C (Kd.int .u8) w A0_22 l0_22.length l0_22) (hc0_22 : l0_22.length ≤ c0_22) (h : gangwaylaw20_heavy.f a0_0 a0_1 a0_2 a0_3 a0_4 a0_5 a0_6 a0_7 l0_8 l0_9 a0_10 a0_11 a0_12 a0_13 a0_14 a0_15 a0_16 a0_17 a0_18 a0_19 a0_20 a0_21 l0_22 = some r) :
    Calls Try.prog 15 #[.agg #[.int .i64 a0_0, .int .i64 a0_1, .int .i64 a0_2, .int .i64 a0_3, .int .i64 a0_4, .int .i64 a0_5, .string a0_6, .int .i64 a0_7, .slice A0_8 l0_8.length c0_8, .slice A0_9 l0_9.length c0_9, .string a0_10, .int .i64 a0_11, .int .i64 a0_12, .int .i64 a0_13, .string a0_14, .int .i64 a0_15, .int .i64 a0_16, .int .i64 a0_17, .int .i64 a0_18, .int .i64 a0_19, .int .i64 a0_20, .int .i64 a0_21, .slice A0_22 l0_22.length c0_22]] w fun e w' => e = .returned (.bool r) ∧ Below w.heap.size w w' := by
  have hu35 := Try.underlying35
  have HR0_8 := Aside0.mk hr0_8
  have HC0_8 := Aside0.mk hc0_8
  clear hr0_8 hc0_8
  have HR0_9 := Aside0.mk hr0_9
  have HC0_9 := Aside0.mk hc0_9
  clear hr0_9 hc0_9
  have HR0_22 := Aside0.mk hr0_22
  have HC0_22 := Aside0.mk hc0_22
  clear hr0_22 hc0_22
  have HB := Aside0.mk (Below.refl w.heap.size w)
  have H : (some (decide ((wrap64 ((wrap64 ((wrap64 ((wrap64 ((l0_8.length : Int) + (a0_10.size : Int))) + (a0_14.size : Int))) + (l0_22.length : Int))) + (wrap64 (20 * (l0_9.length : Int))))) > 5000))) = some r := h
  clear h
  obtain rfl := Option.some.inj H
  go_enter Try.func15, Try.ntmps15
  go_wp2_with (first | ((with_reducible refine gate_dst (N := 1) rfl ?_); refine box_event ?hg (N := 1) ?hd (cs := #[.int .i64 a0_0, .int .i64 a0_1, .int .i64 a0_2, .int .i64 a0_3, .int .i64 a0_4, .int .i64 a0_5, .string a0_6, .int .i64 a0_7, .slice A0_8 l0_8.length c0_8, .slice A0_9 l0_9.length c0_9, .string a0_10, .int .i64 a0_11, .int .i64 a0_12, .int .i64 a0_13, .string a0_14, .int .i64 a0_15, .int .i64 a0_16, .int .i64 a0_17, .int .i64 a0_18, .int .i64 a0_19, .int .i64 a0_20, .int .i64 a0_21, .slice A0_22 l0_22.length c0_22]) (t := 35) ?hr ?_; (case hd => rfl); (case hg => rfl); (case hr => first | (go_simp; done) | (go_simp; rfl)); intro gb174 hg w2 hbox hb; have n0_ := Aside0.mk (below_step (by repeat (first | (with_reducible first | exact HB.out | apply below_alloc | apply pw_below_drewN | apply below_drew1) | exact HB.out)) hb); have n1_ := Aside0.mk (hbox); have n2_ := Aside0.mk ((by rw [hg]; exact (below_size (by repeat (first | (with_reducible first | exact HB.out | apply below_alloc | apply pw_below_drewN | apply below_drew1) | exact HB.out))) : w.heap.size ≤ gb174)); have n3_ := Aside0.mk ((by rw [hg]; exact (below_size (by repeat (first | (with_reducible first | exact HB.out | apply below_alloc | apply pw_below_drewN | apply below_drew1) | exact HB.out))) : w.heap.size ≤ gb174)); clear HB; have HB := n0_; have BK174 := n1_; have GW174 := n2_; have GE174 := n3_; clear n0_ n1_ n2_ n3_; clear hb hbox hg; have hcz3_8 : w2.cell? ⟨gb174, 8, none⟩ = some (.slice A0_8 l0_8.length c0_8) := (blk_cell BK174.out 8).trans rfl; have hcz3_9 : w2.cell? ⟨gb174, 9, none⟩ = some (.slice A0_9 l0_9.length c0_9) := (blk_cell BK174.out 9).trans rfl; have hcz3_10 : w2.cell? ⟨gb174, 10, none⟩ = some (.string a0_10) := (blk_cell BK174.out 10).trans rfl; have hcz3_14 : w2.cell? ⟨gb174, 14, none⟩ = some (.string a0_14) := (blk_cell BK174.out 14).trans rfl; have hcz3_22 : w2.cell? ⟨gb174, 22, none⟩ = some (.slice A0_22 l0_22.length c0_22) := (blk_cell BK174.out 22).trans rfl))
  go_ret
  exact ⟨by first | rfl | (simp [errW_none, errW_some] <;> rfl) | (simp [*, errW_none, errW_some] <;> rfl), by repeat (first | (with_reducible first | exact HB.out | apply below_alloc | apply pw_below_drewN | apply below_drew1 | refine below_set ?_ GE174.out) | exact HB.out)⟩

/-! ### stat_kind: function 35 -/
def stat_kind.f (a0 : Int) : Option (Bool) := if a0 ≥ 1 then (some (decide (a0 ≤ 3))) else (some false)
set_option maxHeartbeats 8000000 in
set_option maxRecDepth 100000 in
theorem stat_kind.calls (a0 : Int) (r : Bool) (w : World) (h : stat_kind.f a0 = some r) :
    Calls Try.prog 35 #[.int .i64 a0] w fun e w' => e = .returned (.bool r) ∧ Drawn0 w w' := by
  have H : (if a0 ≥ 1 then (some (decide (a0 ≤ 3))) else (some false)) = some r := h
  clear h
  by_cases c2 : a0 ≥ 1
  · rw [if_pos c2] at H
    have c2b0 : decide (1 ≤ a0) = true := decide_eq_true c2
    clear c2
    obtain rfl := Option.some.inj H
    go_enter Try.func35, Try.ntmps35
    go_wp2
    go_ret
    exact ⟨by first | rfl | (simp; done) | (simp [*]; done), by repeat (first | exact Drawn0.refl _ | apply Drawn0.step)⟩
  · rw [if_neg c2] at H
    have c2b0 : decide (1 ≤ a0) = false := decide_eq_false c2
    clear c2
    obtain rfl := Option.some.inj H
    go_enter Try.func35, Try.ntmps35
    go_wp2
    go_ret
    exact ⟨by first | rfl | (simp; done) | (simp [*]; done), by repeat (first | exact Drawn0.refl _ | apply Drawn0.step)⟩

/-! ### stat_nodeType: function 36 -/
def stat_nodeType.f (a0 : Int) : Option (Int) := if a0 = 2 then (some 3) else (if a0 = 1 then (some 4) else (some 7))
set_option maxHeartbeats 8000000 in
set_option maxRecDepth 100000 in
theorem stat_nodeType.calls (a0 : Int) (r : Int) (w : World) (h : stat_nodeType.f a0 = some r) :
    Calls Try.prog 36 #[.int .i64 a0] w fun e w' => e = .returned (.int .i64 r) ∧ Drawn0 w w' := by
  have H : (if a0 = 2 then (some 3) else (if a0 = 1 then (some 4) else (some 7))) = some r := h
  clear h
  by_cases c2 : a0 = 2
  · rw [if_pos c2] at H
    have c2b0 : (a0 == 2) = true := beq_iff_eq.mpr c2
    have c2b1 : (a0 != 2) = false := bne_eq_false_iff_eq.mpr c2
    clear c2
    obtain rfl := Option.some.inj H
    go_enter Try.func36, Try.ntmps36
    go_wp2
    go_ret
    exact ⟨by first | rfl | (simp; done) | (simp [*]; done), by repeat (first | exact Drawn0.refl _ | apply Drawn0.step)⟩
  · rw [if_neg c2] at H
    have c2b0 : (a0 == 2) = false := beq_eq_false_iff_ne.mpr c2
    have c2b1 : (a0 != 2) = true := bne_iff_ne.mpr c2
    by_cases c3 : a0 = 1
    · rw [if_pos c3] at H
      have c3b0 : (a0 == 1) = true := beq_iff_eq.mpr c3
      have c3b1 : (a0 != 1) = false := bne_eq_false_iff_eq.mpr c3
      clear c3
      obtain rfl := Option.some.inj H
      go_enter Try.func36, Try.ntmps36
      go_wp2
      go_ret
      exact ⟨by first | rfl | (simp; done) | (simp [*]; done), by repeat (first | exact Drawn0.refl _ | apply Drawn0.step)⟩
    · rw [if_neg c3] at H
      have c3b0 : (a0 == 1) = false := beq_eq_false_iff_ne.mpr c3
      have c3b1 : (a0 != 1) = true := bne_iff_ne.mpr c3
      obtain rfl := Option.some.inj H
      go_enter Try.func36, Try.ntmps36
      go_wp2
      go_ret
      exact ⟨by first | rfl | (simp; done) | (simp [*]; done), by repeat (first | exact Drawn0.refl _ | apply Drawn0.step)⟩

/-! ### stat_Dirent: function 16 -/
abbrev stat_Dirent.t : Bool := true
abbrev stat_Dirent.f_ : Bool := false
theorem stat_Dirent.bc {w : World} {g : Nat} {cs : Array Value} {t : TypeId} (h : Aside0 (w.heap[g]? = some (.cells cs t (0, 0)))) (i : Nat) {v : Value} (e : cs[i]? = some v := by rfl) : w.cell? ⟨g, i, none⟩ = some v := (blk_cell h.out i).trans e
theorem stat_Dirent.bkept {W0 W W2 : World} {g : Nat} {o : Obj} {S : Nat → Prop} (_b : Aside0 (W0.heap[g]? = some o)) (h : W.heap[g]? = some o) (hk : Kept W W2 S) (hn : ¬ S g) : W2.heap[g]? = some o := blk_kept h hk hn
theorem stat_Dirent.bbelow {W0 w w1 : World} {g : Nat} {o : Obj} (_b : Aside0 (W0.heap[g]? = some o)) (h : w.heap[g]? = some o) (hb : Below w.heap.size w w1) : w1.heap[g]? = some o := blk_below h hb
theorem stat_Dirent.e1 {α : Type _} (xs : List α) (i : Nat) (a : α) : xs.toArray.setIfInBounds i a = (xs.set i a).toArray := by simp
theorem stat_Dirent.e2 {α : Type _} (x a : α) (xs : List α) : (x :: xs).set 0 a = a :: xs := rfl
theorem stat_Dirent.e3 {α : Type _} (x a : α) (xs : List α) (n : Nat) : (x :: xs).set (n + 1) a = x :: xs.set n a := rfl
def stat_Dirent.j0 : Nat → Int → Int → ByteArray → Int → Bool → Option (List Int × Int)
 | 0, _, _, _, _, _ => none
 | k + 1, x0, x1, x2, x3, x22 => if x22 = true then (some (([] : List Int), 100)) else ((stat_fresh.f 24).bind fun t176 => ((stat_field_set.f k t176 0 8 x0).bind fun t180 => ((stat_field_set.f k t180 8 8 x1).bind fun t181 => ((stat_field_set.f k t181 16 4 (x2.size : Int)).bind fun t182 => ((stat_nodeType.f x3).bind fun t183 => ((stat_field_set.f k t182 20 1 t183).bind fun t184 => (if t184.length + x2.size < 140737488355328 then (some ((t184 ++ bytesOf x2), 0)) else (none))))))))
def stat_Dirent.f (k : Nat) (a0 : Int) (a1 : Int) (a2 : ByteArray) (a3 : Int) : Option (List Int × Int) := if a0 < 0 then (stat_Dirent.j0 k a0 a1 a2 a3 true) else (if a1 < 0 then (stat_Dirent.j0 k a0 a1 a2 a3 true) else ((stat_kind.f a3).bind fun t175 => (stat_Dirent.j0 k a0 a1 a2 a3 (!t175))))
theorem stat_Dirent.mono_l : ∀ k, (∀ y0 y1 y2 y3 y4, LeO (stat_Dirent.j0 k y0 y1 y2 y3 y4) (stat_Dirent.j0 (k + 1) y0 y1 y2 y3 y4))
 | 0 => fun _ _ _ _ _ r h => by simp [stat_Dirent.j0] at h
 | k + 1 => by
  have ih0 := stat_Dirent.mono_l k
  ·intro y0 y1 y2 y3 y4
   unfold stat_Dirent.j0
   repeat' first
   | (with_reducible apply ih0)
   | (with_reducible exact stat_field_set.mono _ _ _ _ _)
   | (with_reducible exact LeO.refl _)
   | (with_reducible exact LeO.none _)
   | (with_reducible refine LeO.ite ?_ ?_)
   | (with_reducible refine LeO.bind ?_ (fun _ => ?_))
   | apply ih0
   | exact stat_field_set.mono _ _ _ _ _
   | exact LeO.none _
   | refine LeO.ite ?_ ?_
   | refine LeO.bind ?_ (fun _ => ?_)
theorem stat_Dirent.mono : ∀ a0 a1 a2 a3 k, LeO (stat_Dirent.f k a0 a1 a2 a3) (stat_Dirent.f (k + 1) a0 a1 a2 a3) := by
 intro a0 a1 a2 a3 k
 have ih0 := stat_Dirent.mono_l k
 unfold stat_Dirent.f
 repeat' first
   | (with_reducible apply ih0)
   | (with_reducible exact stat_field_set.mono _ _ _ _ _)
   | (with_reducible exact LeO.refl _)
   | (with_reducible exact LeO.none _)
   | (with_reducible refine LeO.ite ?_ ?_)
   | (with_reducible refine LeO.bind ?_ (fun _ => ?_))
   | apply ih0
   | exact stat_field_set.mono _ _ _ _ _
   | exact LeO.none _
   | refine LeO.ite ?_ ?_
   | refine LeO.bind ?_ (fun _ => ?_)
theorem stat_Dirent.aa_0 {p : Prop} (h : p := by repeat (first | (with_reducible first | exact HB.out | apply below_alloc | apply pw_below_drewN | apply below_drew1) | exact HB.out)) : p := h
theorem stat_Dirent.aa_1 {p : Prop} (h : p := by (try simp only [List.map_toArray, List.map_cons, List.map_nil]); first | done | rfl | (simp; done) | rfl | (simp only [List.length_drop, List.length_take]; rfl)) : p := h
theorem stat_Dirent.aa_2 {p : Prop} (h : p := by (with_reducible repeat (first | refine blk_drewN ?_ _ | refine blk_drew ?_ | refine blk_alloc ?_ _)); exact BK179.out) : p := h
theorem stat_Dirent.aa_3 {p : Prop} (h : p := by repeat (first | (with_reducible first | exact HB.out | apply below_alloc | apply pw_below_drewN | apply below_drew1 | refine below_set ?_ GE179.out) | exact HB.out)) : p := h
theorem stat_Dirent.am_ {p : Prop} (h : p) : Aside0 p := Aside0.mk h
theorem stat_Dirent.bm_ {α β : Type _} {o : Option α} {f : α → Option β} {b : β} (h : o.bind f = some b) : ∃ a, o = some a ∧ f a = some b := Option.bind_eq_some_iff.mp h
set_option maxHeartbeats 8000000 in
set_option maxRecDepth 100000 in
theorem stat_Dirent.calls (k : Nat) (a0 : Int) (a1 : Int) (a2 : ByteArray) (a3 : Int) (r1 : List Int) (r2 : Int) (w : World) (h : stat_Dirent.f k a0 a1 a2 a3 = some (r1, r2)) :
  Calls Try.prog 16 #[.int .i64 a0, .int .i64 a1, .string a2, .int .i64 a3] w fun e w' => ∃ v0_ : Value, e = .returned (.tuple #[v0_, .int .i64 r2]) ∧ Kd.R (Kd.int .u8) 5 w' w.heap.size (fun _ => True) v0_ r1 ∧ Below w.heap.size w w' := by
 have hu61 := Try.underlying61
 have HB := am_ (Below.refl w.heap.size w)
 have H : (if a0 < 0 then (j0 k a0 a1 a2 a3 true) else (if a1 < 0 then (j0 k a0 a1 a2 a3 true) else ((stat_kind.f a3).bind fun t175 => (j0 k a0 a1 a2 a3 (!t175))))) = some (r1, r2) := h
 clear h
 have HC5 := am_ H
 clear H
 go_enter Try.func16, Try.ntmps16
 go_upto_region 1 with (fail)
 go_cut [22] (fun v22 wc => ∃ (kq : Nat) (x22_4 : Bool), v22 = .bool x22_4 ∧ Aside0 (j0 kq a0 a1 a2 a3 x22_4 = some (r1, r2)) ∧ Aside0 (kq ≤ k) ∧ Aside0 (Below w.heap.size w wc))
 case first =>
  have H := HC5.out
  clear HC5
  by_cases c6 : a0 < 0
  ·rw [if_pos c6] at H
   have c6b0 : decide (a0 < 0) = true := decide_eq_true c6
   clear c6
   (first | rw [c6b0] | (simp only [i64_w, i32_w]; rw [c6b0]) | skip)
   have H' := am_ H
   clear H
   go_wp2
   go_meet
   case rel => exact ⟨_, (true), (by first | rfl | (simp; done) | (simp [*]; done)), H', ⟨by first | omega | exact Nat.le_refl _⟩, ⟨aa_0⟩⟩
  rw [if_neg c6] at H
  have c6b0 : decide (a0 < 0) = false := decide_eq_false c6
  clear c6
  (first | rw [c6b0] | (simp only [i64_w, i32_w]; rw [c6b0]) | skip)
  by_cases c7 : a1 < 0
  ·rw [if_pos c7] at H
   have c7b0 : decide (a1 < 0) = true := decide_eq_true c7
   clear c7
   have H' := am_ H
   clear H
   go_wp2
   go_meet
   case rel => exact ⟨_, (true), (by first | rfl | (simp; done) | (simp [*]; done)), H', ⟨by first | omega | exact Nat.le_refl _⟩, ⟨aa_0⟩⟩
  rw [if_neg c7] at H
  have c7b0 : decide (a1 < 0) = false := decide_eq_false c7
  clear c7
  replace H := bm_ H
  obtain ⟨t175, A80, H⟩ := H
  replace H : (j0 k a0 a1 a2 a3 (!t175)) = some (r1, r2) := H
  have A8 := am_ A80
  clear A80
  have H' := am_ H
  clear H
  go_wp2_with (first | (go_at_call 35; (with_reducible refine (stat_kind.calls a3 t175 _ A8.out).mono ?_); rintro e w' ⟨rfl, ⟨nd, rfl⟩⟩))
  go_meet
  case rel => exact ⟨_, (!t175), (by first | rfl | (simp; done) | (simp [*]; done)), H', ⟨by first | omega | exact Nat.le_refl _⟩, ⟨aa_0⟩⟩
 case rest =>
 clear HC5
 try clear c1
 try clear p2
 try clear c6
 try clear c6b0
 try clear c7
 try clear c7b0
 obtain ⟨kq, x22_4, rfl, HA, HJ4, HB⟩ := hcut
 cases kq with
 | zero => exact absurd HA.out (by simp [j0])
 | succ kj4 =>
 have H := HA.out
 clear HA
 simp only [j0] at H
 by_cases c9 : x22_4 = true
 ·subst c9
  have H1 : (some (([] : List Int), 100)) = some (r1, r2) := by rw [if_pos rfl] at H; exact H
  clear H
  have H := H1
  clear H1
  simp only [Option.some.injEq, Prod.mk.injEq] at H
  obtain ⟨rfl, rfl⟩ := H
  go_wp2
  go_ret2
  exact ⟨_, by first | rfl | (simp [errW_none, errW_some] <;> rfl) | (simp [*, errW_none, errW_some] <;> rfl), by first | exact Kd.R_nil _ _ _ _ _ | exact Kd.N_nil _ _ _ _ _ | exact Kd.V_nil _ _ _ _ _ | exact Kd.Q_nil _ _ _ _ _ | exact Kd.S_nil _ _ _ _ _, by repeat (first | (with_reducible first | exact HB.out | apply below_alloc | apply pw_below_drewN | apply below_drew1) | exact HB.out)⟩
 replace c9 := Bool.eq_false_iff.mpr c9
 subst c9
 have H1 : ((stat_fresh.f 24).bind fun t176 => ((stat_field_set.f kj4 t176 0 8 a0).bind fun t180 => ((stat_field_set.f kj4 t180 8 8 a1).bind fun t181 => ((stat_field_set.f kj4 t181 16 4 (a2.size : Int)).bind fun t182 => ((stat_nodeType.f a3).bind fun t183 => ((stat_field_set.f kj4 t182 20 1 t183).bind fun t184 => (if t184.length + a2.size < 140737488355328 then (some ((t184 ++ bytesOf a2), 0)) else (none)))))))) = some (r1, r2) := by rw [if_neg (show ¬ (false = true) by decide)] at H; exact H
 clear H
 have H := H1
 clear H1
 replace H := bm_ H
 obtain ⟨t176, A100, H⟩ := H
 replace H : ((stat_field_set.f kj4 t176 0 8 a0).bind fun t180 => ((stat_field_set.f kj4 t180 8 8 a1).bind fun t181 => ((stat_field_set.f kj4 t181 16 4 (a2.size : Int)).bind fun t182 => ((stat_nodeType.f a3).bind fun t183 => ((stat_field_set.f kj4 t182 20 1 t183).bind fun t184 => (if t184.length + a2.size < 140737488355328 then (some ((t184 ++ bytesOf a2), 0)) else (none))))))) = some (r1, r2) := H
 have A10 := am_ A100
 clear A100
 replace H := bm_ H
 obtain ⟨t180, A110, H⟩ := H
 replace H : ((stat_field_set.f kj4 t180 8 8 a1).bind fun t181 => ((stat_field_set.f kj4 t181 16 4 (a2.size : Int)).bind fun t182 => ((stat_nodeType.f a3).bind fun t183 => ((stat_field_set.f kj4 t182 20 1 t183).bind fun t184 => (if t184.length + a2.size < 140737488355328 then (some ((t184 ++ bytesOf a2), 0)) else (none)))))) = some (r1, r2) := H
 have A11 := am_ A110
 clear A110
 replace H := bm_ H
 obtain ⟨t181, A120, H⟩ := H
 replace H : ((stat_field_set.f kj4 t181 16 4 (a2.size : Int)).bind fun t182 => ((stat_nodeType.f a3).bind fun t183 => ((stat_field_set.f kj4 t182 20 1 t183).bind fun t184 => (if t184.length + a2.size < 140737488355328 then (some ((t184 ++ bytesOf a2), 0)) else (none))))) = some (r1, r2) := H
 have A12 := am_ A120
 clear A120
 replace H := bm_ H
 obtain ⟨t182, A130, H⟩ := H
 replace H : ((stat_nodeType.f a3).bind fun t183 => ((stat_field_set.f kj4 t182 20 1 t183).bind fun t184 => (if t184.length + a2.size < 140737488355328 then (some ((t184 ++ bytesOf a2), 0)) else (none)))) = some (r1, r2) := H
 have A13 := am_ A130
 clear A130
 replace H := bm_ H
 obtain ⟨t183, A140, H⟩ := H
 replace H : ((stat_field_set.f kj4 t182 20 1 t183).bind fun t184 => (if t184.length + a2.size < 140737488355328 then (some ((t184 ++ bytesOf a2), 0)) else (none))) = some (r1, r2) := H
 have A14 := am_ A140
 clear A140
 replace H := bm_ H
 obtain ⟨t184, A150, H⟩ := H
 replace H : (if t184.length + a2.size < 140737488355328 then (some ((t184 ++ bytesOf a2), 0)) else (none)) = some (r1, r2) := H
 have A15 := am_ A150
 clear A150
 by_cases c16 : t184.length + a2.size < 140737488355328
 rotate_left
 ·rw [if_neg c16] at H
  exact absurd H (by simp)
 rw [if_pos c16] at H
 have LMc16 := am_ c16
 clear c16
 obtain ⟨y185, hy185⟩ : ∃ y_ : List Int, y_ = (t184 ++ bytesOf a2) := ⟨_, rfl⟩
 replace H : (some (y185, 0)) = some (r1, r2) := by first | (rw [hy185]; with_reducible exact H) | (have H2_ := (Option.bind_some _ _).symm.trans H; rw [hy185]; with_reducible exact H2_) | (have H2_ := (Option.bind_some _ _).symm.trans H; with_reducible exact H2_) | with_reducible exact H | (rw [hy185]; exact H) | exact H
 have Ny185 := am_ hy185
 clear hy185
 simp only [Option.some.injEq, Prod.mk.injEq] at H
 obtain ⟨rfl, rfl⟩ := H
 go_wp2_with (first | ((with_reducible refine gate_callee (f := 31) rfl ?_); refine goesL_ (some 23) rfl rfl Try.func31 (by kernel_rfl) rfl #[.int .i64 24] rfl (by (try simp only [List.map_toArray, List.map_cons, List.map_nil]); first | done | rfl | (simp only [List.length_drop, List.length_take]; rfl)) ?_; (with_reducible refine (stat_fresh.calls 24 t176 _ A10.out).mono ?_); rintro e w17 ⟨v177, rfl, ho0, hb⟩; refine ⟨_, rfl, ?_⟩; have n0_ := am_ (Kd.R_lower ho0 (below_size aa_0)); have n1_ := am_ (below_step aa_0 hb); clear HB; have HO178 := n0_; have HB := n1_; clear n0_ n1_; (try clear hb); (try clear hb2); (try clear hk); (try clear hi); (try clear ho0)) | ((with_reducible refine gate_dst (N := 10) rfl ?_); refine box_event ?hg (N := 10) ?hd (cs := #[.slice none 0 0]) (t := 61) ?hr ?_; (case hd => rfl); (case hg => rfl); (case hr => first | (go_simp; done) | (go_simp; rfl)); intro gb179 hg w18 hbox hb; have n0_ := am_ (Kd.R_below (by (with_reducible repeat (first | apply Kd.R_alloc | apply Kd.R_drewN | apply Kd.R_drew)); exact HO178.out) hb); have n1_ := am_ (below_step aa_0 hb); have n2_ := am_ (hbox); have n3_ := am_ ((by rw [hg]; exact (below_size aa_0) : w.heap.size ≤ gb179)); have n4_ := am_ ((by rw [hg]; exact (below_size aa_0) : w.heap.size ≤ gb179)); clear HO178; clear HB; have HO178 := n0_; have HB := n1_; have BK179 := n2_; have GW179 := n3_; have GE179 := n4_; clear n0_ n1_ n2_ n3_ n4_; clear hb hbox hg; obtain ⟨Ao19, co19, eo19⟩ := Kd.R_slice HO178.out; subst eo19; have hcz20_0 : w18.cell? ⟨gb179, 0, none⟩ = some (.slice none 0 0) := (bc BK179 0); have hfz20_0 := blk_frozen BK179.out 0) | ((with_reducible refine gate_store (t := 61) (p := 10) rfl ?_); refine store_event (t := 61) (p := 10) (v := ?vo_w21) (w1 := (w18.setCell ⟨gb179, 0, none⟩ (.slice Ao19 t176.length co19))) ?hg ?ho ?hn ?hr ?_; (case ho => rfl); (case hg => rfl); (case hn => rfl); (case hr => first | (go_simp; done) | (go_simp; rfl)); intro w21 hw; have n0_ : Aside0 (Kd.R (Kd.int .u8) 5 w21 w.heap.size (fun _ => True) (.slice Ao19 t176.length co19) t176) := ⟨(by rw [hw]; exact (by (with_reducible repeat (first | apply Kd.R_alloc | apply Kd.R_drewN | apply Kd.R_drew)); exact Kd.R_mono (Kd.R_far (p := ⟨gb179, 0, none⟩) (Kd.R_types HO178.out BK179.out (by decide)) (fun _ hk => hk.2) (.slice Ao19 t176.length co19)) (fun _ hk => trivial)))⟩; have n1_ : Aside0 (w21.heap[gb179]? = some (.cells #[.slice Ao19 t176.length co19] 61 (0, 0))) := ⟨(by rw [hw]; exact (by (with_reducible repeat (first | refine blk_drewN ?_ _ | refine blk_drew ?_ | refine blk_alloc ?_ _)); refine blk_put (cs := #[.slice none 0 0]) ?_ 0 _ rfl; (with_reducible repeat (first | refine blk_drewN ?_ _ | refine blk_drew ?_ | refine blk_alloc ?_ _)); exact BK179.out))⟩; have n2_ : Aside0 (Below w.heap.size w w21) := ⟨(by rw [hw]; exact (by repeat (first | (with_reducible first | exact HB.out | apply below_alloc | apply pw_below_drewN | apply below_drew1 | refine below_set ?_ GE179.out) | exact HB.out)))⟩; clear hw; clear HO178; clear BK179; clear HB; have HO178 := n0_; have BK179 := n1_; have HB := n2_; clear n0_ n1_ n2_; have hcz22_0 : w21.cell? ⟨gb179, 0, none⟩ = some (.slice Ao19 t176.length co19) := (bc BK179 0); have hfz22_0 := blk_frozen BK179.out 0) | ((with_reducible refine Go.Proofs.YthhmnecnoojcpaaO.gate_value (F := .tmp 26) rfl ?_); refine Go.Proofs.YthhmnecnoojcpaaO.goesM_ (some 28) rfl rfl Try.func32 (by kernel_rfl) rfl #[.agg #[.slice Ao19 t176.length co19], .int .i64 0, .int .i64 8, .int .i64 a0] rfl rfl aa_1 ?_; (with_reducible refine (stat_field_set.calls kj4 (fun k_ => some k_ = (.slice Ao19 t176.length co19 : Value).ownBlock) (.slice Ao19 t176.length co19) t176 0 8 a0 t180 w _ ?side1 ?side2 A11.out).mono ?_); (case side1 => exact aa_3); (case side2 => exact Kd.R_tight rfl HO178.out); rintro e w23 ⟨rfl, hy0, hb, hkp⟩; refine ⟨_, rfl, ?_⟩; (try obtain ⟨hlew23_0, hgew23_0⟩ := Go.Proofs.YthhmnecnoojcpaaO.R_lens hy0); have n0_ := am_ (Kd.R_reok rfl hy0 (fun k_ e_ => HO178.out.1 k_ e_)); have n1_ := am_ (bkept BK179 aa_2 hkp (fun hs_ => (fun e_ => (Kd.R_ne HO178.out BK179.out (by decide)) e_) hs_)); have n2_ := am_ (hb); clear HO178; clear BK179; clear HB; have HO178 := n0_; have BK179 := n1_; have HB := n2_; clear n0_ n1_ n2_; (try clear hb); (try clear hkp); (try clear hy0)) | ((with_reducible refine Go.Proofs.YthhmnecnoojcpaaO.gate_value (F := .tmp 29) rfl ?_); refine Go.Proofs.YthhmnecnoojcpaaO.goesM_ (some 31) rfl rfl Try.func32 (by kernel_rfl) rfl #[.agg #[.slice Ao19 t176.length co19], .int .i64 8, .int .i64 8, .int .i64 a1] rfl rfl aa_1 ?_; (with_reducible refine (stat_field_set.calls kj4 (fun k_ => some k_ = (.slice Ao19 t176.length co19 : Value).ownBlock) (.slice Ao19 t176.length co19) t180 8 8 a1 t181 w _ ?side1 ?side2 A12.out).mono ?_); (case side1 => exact aa_3); (case side2 => exact Kd.R_tight rfl HO178.out); rintro e w24 ⟨rfl, hy0, hb, hkp⟩; refine ⟨_, rfl, ?_⟩; (try obtain ⟨hlew24_0, hgew24_0⟩ := Go.Proofs.YthhmnecnoojcpaaO.R_lens hy0); have n0_ := am_ (Kd.R_reok rfl hy0 (fun k_ e_ => HO178.out.1 k_ e_)); have n1_ := am_ (bkept BK179 aa_2 hkp (fun hs_ => (fun e_ => (Kd.R_ne HO178.out BK179.out (by decide)) e_) hs_)); have n2_ := am_ (hb); clear HO178; clear BK179; clear HB; have HO178 := n0_; have BK179 := n1_; have HB := n2_; clear n0_ n1_ n2_; (try clear hb); (try clear hkp); (try clear hy0)) | ((with_reducible refine Go.Proofs.YthhmnecnoojcpaaO.gate_value (F := .tmp 32) rfl ?_); refine Go.Proofs.YthhmnecnoojcpaaO.goesM_ (some 35) rfl rfl Try.func32 (by kernel_rfl) rfl #[.agg #[.slice Ao19 t176.length co19], .int .i64 16, .int .i64 4, .int .i64 (a2.size : Int)] rfl rfl aa_1 ?_; (with_reducible refine (stat_field_set.calls kj4 (fun k_ => some k_ = (.slice Ao19 t176.length co19 : Value).ownBlock) (.slice Ao19 t176.length co19) t181 16 4 (a2.size : Int) t182 w _ ?side1 ?side2 A13.out).mono ?_); (case side1 => exact aa_3); (case side2 => exact Kd.R_tight rfl HO178.out); rintro e w25 ⟨rfl, hy0, hb, hkp⟩; refine ⟨_, rfl, ?_⟩; (try obtain ⟨hlew25_0, hgew25_0⟩ := Go.Proofs.YthhmnecnoojcpaaO.R_lens hy0); have n0_ := am_ (Kd.R_reok rfl hy0 (fun k_ e_ => HO178.out.1 k_ e_)); have n1_ := am_ (bkept BK179 aa_2 hkp (fun hs_ => (fun e_ => (Kd.R_ne HO178.out BK179.out (by decide)) e_) hs_)); have n2_ := am_ (hb); clear HO178; clear BK179; clear HB; have HO178 := n0_; have BK179 := n1_; have HB := n2_; clear n0_ n1_ n2_; (try clear hb); (try clear hkp); (try clear hy0)) | ((with_reducible refine gate_callee (f := 36) rfl ?_); refine goesL_ (some 38) rfl rfl Try.func36 (by kernel_rfl) rfl #[.int .i64 a3] rfl (by (try simp only [List.map_toArray, List.map_cons, List.map_nil]); first | done | rfl | (simp only [List.length_drop, List.length_take]; rfl)) ?_; (with_reducible refine (stat_nodeType.calls a3 t183 _ A14.out).mono ?_); rintro e w' ⟨rfl, ⟨nd, rfl⟩⟩; refine ⟨_, rfl, ?_⟩) | ((with_reducible refine Go.Proofs.YthhmnecnoojcpaaO.gate_value (F := .tmp 36) rfl ?_); refine Go.Proofs.YthhmnecnoojcpaaO.goesM_ (some 39) rfl rfl Try.func32 (by kernel_rfl) rfl #[.agg #[.slice Ao19 t176.length co19], .int .i64 20, .int .i64 1, .int .i64 t183] rfl rfl aa_1 ?_; (with_reducible refine (stat_field_set.calls kj4 (fun k_ => some k_ = (.slice Ao19 t176.length co19 : Value).ownBlock) (.slice Ao19 t176.length co19) t182 20 1 t183 t184 w _ ?side1 ?side2 A15.out).mono ?_); (case side1 => exact aa_3); (case side2 => exact Kd.R_tight rfl HO178.out); rintro e w26 ⟨rfl, hy0, hb, hkp⟩; refine ⟨_, rfl, ?_⟩; (try obtain ⟨hlew26_0, hgew26_0⟩ := Go.Proofs.YthhmnecnoojcpaaO.R_lens hy0); have n0_ := am_ (Kd.R_reok rfl hy0 (fun k_ e_ => HO178.out.1 k_ e_)); have n1_ := am_ (bkept BK179 aa_2 hkp (fun hs_ => (fun e_ => (Kd.R_ne HO178.out BK179.out (by decide)) e_) hs_)); have n2_ := am_ (hb); clear HO178; clear BK179; clear HB; have HO178 := n0_; have BK179 := n1_; have HB := n2_; clear n0_ n1_ n2_; (try clear hb); (try clear hkp); (try clear hy0); have hcz27_0 : w26.cell? ⟨gb179, 0, none⟩ = some (.slice Ao19 t176.length co19) := (bc BK179 0); have hfz27_0 := blk_frozen BK179.out 0) | (at_builtin; refine print_append_str (w0 := w) w.heap.size rfl (.tmp 41) _ 23 9 5 rfl Try.underlying23 Try.underlying9 info5 (.slice Ao19 t176.length co19) t184 a2 rfl rfl ?aO ?aB ?aS ?aL ?_; (case aB => exact (by repeat (first | (with_reducible first | exact HB.out | apply below_alloc | apply pw_below_drewN | apply below_drew1 | refine below_set ?_ GE179.out) | exact HB.out))); (case aO => exact (Kd.own_of_R (by (with_reducible repeat (first | apply Kd.R_alloc | apply Kd.R_drewN | apply Kd.R_drew)); exact HO178.out))); (case aS => exact (below_size (by repeat (first | (with_reducible first | exact HB.out | apply below_alloc | apply pw_below_drewN | apply below_drew1 | refine below_set ?_ GE179.out) | exact HB.out)))); (case aL => have := LMc16.out; omega); intro v186 w28 ho0 hb hg; have ho := Kd.R_of_own (h1 := fun _ => rfl) (ok := fun _ => True) ho0 (fun _ _ => trivial); clear ho0; have hat := True.intro; rw [← Ny185.out] at ho; change Kd.R (Kd.int .u8) 5 w28 w.heap.size (fun _ => True) v186 y185 at ho; have n0_ := am_ (blk_grown (g := gb179) (o := .cells #[.slice Ao19 t176.length co19] 61 (0, 0)) aa_2 hg (Kd.R_ne HO178.out BK179.out (by decide))); have n1_ := am_ (hb); have n2_ := am_ (ho); clear BK179; clear HB; clear HO178; have BK179 := n0_; have HB := n1_; have HO187 := n2_; clear n0_ n1_ n2_; clear ho hb hg hat))
 go_ret2
 exact ⟨_, by first | rfl | (simp [errW_none, errW_some] <;> rfl) | (simp [*, errW_none, errW_some] <;> rfl), by (with_reducible repeat (first | apply Kd.R_alloc | apply Kd.R_drewN | apply Kd.R_drew)); exact HO187.out, by repeat (first | (with_reducible first | exact HB.out | apply below_alloc | apply pw_below_drewN | apply below_drew1 | refine below_set ?_ GE179.out) | exact HB.out)⟩
/-! ### gangwayref20_filetype: function 37 -/
def gangwayref20_filetype.f (a0 : Int) : Option (Int) := if a0 = 2 then (some 3) else (if a0 = 3 then (some 7) else (some 4))
set_option maxHeartbeats 8000000 in
set_option maxRecDepth 100000 in
theorem gangwayref20_filetype.calls (a0 : Int) (r : Int) (w : World) (h : gangwayref20_filetype.f a0 = some r) :
    Calls Try.prog 37 #[.int .i64 a0] w fun e w' => e = .returned (.int .u8 r) ∧ Drawn0 w w' := by
  have H : (if a0 = 2 then (some 3) else (if a0 = 3 then (some 7) else (some 4))) = some r := h
  clear h
  by_cases c2 : a0 = 2
  · rw [if_pos c2] at H
    have c2b0 : (a0 == 2) = true := beq_iff_eq.mpr c2
    have c2b1 : (a0 != 2) = false := bne_eq_false_iff_eq.mpr c2
    clear c2
    obtain rfl := Option.some.inj H
    go_enter Try.func37, Try.ntmps37
    go_wp2
    go_ret
    exact ⟨by first | rfl | (simp; done) | (simp [*]; done), by repeat (first | exact Drawn0.refl _ | apply Drawn0.step)⟩
  · rw [if_neg c2] at H
    have c2b0 : (a0 == 2) = false := beq_eq_false_iff_ne.mpr c2
    have c2b1 : (a0 != 2) = true := bne_iff_ne.mpr c2
    by_cases c3 : a0 = 3
    · rw [if_pos c3] at H
      have c3b0 : (a0 == 3) = true := beq_iff_eq.mpr c3
      have c3b1 : (a0 != 3) = false := bne_eq_false_iff_eq.mpr c3
      clear c3
      obtain rfl := Option.some.inj H
      go_enter Try.func37, Try.ntmps37
      go_wp2
      go_ret
      exact ⟨by first | rfl | (simp; done) | (simp [*]; done), by repeat (first | exact Drawn0.refl _ | apply Drawn0.step)⟩
    · rw [if_neg c3] at H
      have c3b0 : (a0 == 3) = false := beq_eq_false_iff_ne.mpr c3
      have c3b1 : (a0 != 3) = true := bne_iff_ne.mpr c3
      obtain rfl := Option.some.inj H
      go_enter Try.func37, Try.ntmps37
      go_wp2
      go_ret
      exact ⟨by first | rfl | (simp; done) | (simp [*]; done), by repeat (first | exact Drawn0.refl _ | apply Drawn0.step)⟩

/-! ### gangwayref20_Dirent: function 17 -/
abbrev gangwayref20_Dirent.t : Bool := true
abbrev gangwayref20_Dirent.f_ : Bool := false
theorem gangwayref20_Dirent.bc {w : World} {g : Nat} {cs : Array Value} {t : TypeId} (h : Aside0 (w.heap[g]? = some (.cells cs t (0, 0)))) (i : Nat) {v : Value} (e : cs[i]? = some v := by rfl) : w.cell? ⟨g, i, none⟩ = some v := (blk_cell h.out i).trans e
theorem gangwayref20_Dirent.bkept {W0 W W2 : World} {g : Nat} {o : Obj} {S : Nat → Prop} (_b : Aside0 (W0.heap[g]? = some o)) (h : W.heap[g]? = some o) (hk : Kept W W2 S) (hn : ¬ S g) : W2.heap[g]? = some o := blk_kept h hk hn
theorem gangwayref20_Dirent.bbelow {W0 w w1 : World} {g : Nat} {o : Obj} (_b : Aside0 (W0.heap[g]? = some o)) (h : w.heap[g]? = some o) (hb : Below w.heap.size w w1) : w1.heap[g]? = some o := blk_below h hb
theorem gangwayref20_Dirent.e1 {α : Type _} (xs : List α) (i : Nat) (a : α) : xs.toArray.setIfInBounds i a = (xs.set i a).toArray := by simp
theorem gangwayref20_Dirent.e2 {α : Type _} (x a : α) (xs : List α) : (x :: xs).set 0 a = a :: xs := rfl
theorem gangwayref20_Dirent.e3 {α : Type _} (x a : α) (xs : List α) (n : Nat) : (x :: xs).set (n + 1) a = x :: xs.set n a := rfl
def gangwayref20_Dirent.f (k : Nat) (a0 : Int) (a1 : Int) (a2 : ByteArray) (a3 : Int) : Option (List Int) := (some (List.replicate 24 0 : List Int)).bind fun y188 => ((gangwayref20_Little.f k (IntKind.u64.wrap (a0)) 8).bind fun t191 => ((gangwayref20_put.f k y188 0 t191).bind fun t194 => ((gangwayref20_Little.f k (IntKind.u64.wrap (a1)) 8).bind fun t195 => ((gangwayref20_put.f k t194 8 t195).bind fun t198 => ((gangwayref20_Little.f k (IntKind.u64.wrap ((a2.size : Int))) 4).bind fun t199 => ((gangwayref20_put.f k t198 16 t199).bind fun t202 => ((gangwayref20_filetype.f a3).bind fun t203 => (if 20 < (y188.length : Int) then ((some (t202.set (20 : Int).toNat t203 : List Int)).bind fun y204 => (if a2.size ≤ 9223372036854775807 then ((some (bytesOf a2 : List Int)).bind fun y205 => (if y204.length + y205.length < 140737488355328 then (some (y204 ++ y205)) else (none))) else (none))) else (none)))))))))
theorem gangwayref20_Dirent.mono : ∀ a0 a1 a2 a3 k, LeO (gangwayref20_Dirent.f k a0 a1 a2 a3) (gangwayref20_Dirent.f (k + 1) a0 a1 a2 a3) := by
 intro a0 a1 a2 a3 k
 unfold gangwayref20_Dirent.f
 repeat' first
   | (with_reducible exact gangwayref20_Little.mono _ _ _)
   | (with_reducible exact gangwayref20_put.mono _ _ _ _)
   | (with_reducible exact LeO.refl _)
   | (with_reducible exact LeO.none _)
   | (with_reducible refine LeO.ite ?_ ?_)
   | (with_reducible refine LeO.bind ?_ (fun _ => ?_))
   | exact gangwayref20_Little.mono _ _ _
   | exact gangwayref20_put.mono _ _ _ _
   | exact LeO.none _
   | refine LeO.ite ?_ ?_
   | refine LeO.bind ?_ (fun _ => ?_)
theorem gangwayref20_Dirent.aa_0 {p : Prop} (h : p := by repeat (first | (with_reducible first | exact HB.out | apply below_alloc | apply pw_below_drewN | apply below_drew1) | exact HB.out)) : p := h
theorem gangwayref20_Dirent.aa_1 {p : Prop} (h : p := by (try simp only [List.map_toArray, List.map_cons, List.map_nil]); first | done | rfl | (simp only [List.length_drop, List.length_take]; rfl)) : p := h
theorem gangwayref20_Dirent.aa_2 {p : Prop} (h : p := by (with_reducible repeat (first | apply Kd.R_alloc | apply Kd.R_drewN | apply Kd.R_drew)); exact HO193.out) : p := h
theorem gangwayref20_Dirent.aa_3 {p : Prop} (h : p := by (with_reducible repeat (first | apply Kd.R_alloc | apply Kd.R_drewN | apply Kd.R_drew)); exact HO190.out) : p := h
theorem gangwayref20_Dirent.aa_4 {p : Prop} (h : p := by (with_reducible repeat (first | apply Kd.R_alloc | apply Kd.R_drewN | apply Kd.R_drew)); exact HO197.out) : p := h
theorem gangwayref20_Dirent.am_ {p : Prop} (h : p) : Aside0 p := Aside0.mk h
theorem gangwayref20_Dirent.bm_ {α β : Type _} {o : Option α} {f : α → Option β} {b : β} (h : o.bind f = some b) : ∃ a, o = some a ∧ f a = some b := Option.bind_eq_some_iff.mp h
set_option maxHeartbeats 8000000 in
set_option maxRecDepth 100000 in
theorem gangwayref20_Dirent.calls (k : Nat) (a0 : Int) (a1 : Int) (a2 : ByteArray) (a3 : Int) (r : List Int) (w : World) (h : gangwayref20_Dirent.f k a0 a1 a2 a3 = some r) :
  Calls Try.prog 17 #[.int .i64 a0, .int .i64 a1, .string a2, .int .i64 a3] w fun e w' => ∃ v0_ : Value, e = .returned (v0_) ∧ Kd.R (Kd.int .u8) 5 w' w.heap.size (fun _ => True) v0_ r ∧ Below w.heap.size w w' := by
 have HB := am_ (Below.refl w.heap.size w)
 have H : ((some (List.replicate 24 0 : List Int)).bind fun y188 => ((gangwayref20_Little.f k (IntKind.u64.wrap (a0)) 8).bind fun t191 => ((gangwayref20_put.f k y188 0 t191).bind fun t194 => ((gangwayref20_Little.f k (IntKind.u64.wrap (a1)) 8).bind fun t195 => ((gangwayref20_put.f k t194 8 t195).bind fun t198 => ((gangwayref20_Little.f k (IntKind.u64.wrap ((a2.size : Int))) 4).bind fun t199 => ((gangwayref20_put.f k t198 16 t199).bind fun t202 => ((gangwayref20_filetype.f a3).bind fun t203 => (if 20 < (y188.length : Int) then ((some (t202.set (20 : Int).toNat t203 : List Int)).bind fun y204 => (if a2.size ≤ 9223372036854775807 then ((some (bytesOf a2 : List Int)).bind fun y205 => (if y204.length + y205.length < 140737488355328 then (some (y204 ++ y205)) else (none))) else (none))) else (none)))))))))) = some r := h
 clear h
 obtain ⟨y188, hy188⟩ : ∃ y_ : List Int, y_ = (List.replicate 24 0) := ⟨_, rfl⟩
 replace H : ((gangwayref20_Little.f k (IntKind.u64.wrap (a0)) 8).bind fun t191 => ((gangwayref20_put.f k y188 0 t191).bind fun t194 => ((gangwayref20_Little.f k (IntKind.u64.wrap (a1)) 8).bind fun t195 => ((gangwayref20_put.f k t194 8 t195).bind fun t198 => ((gangwayref20_Little.f k (IntKind.u64.wrap ((a2.size : Int))) 4).bind fun t199 => ((gangwayref20_put.f k t198 16 t199).bind fun t202 => ((gangwayref20_filetype.f a3).bind fun t203 => (if 20 < (y188.length : Int) then ((some (t202.set (20 : Int).toNat t203 : List Int)).bind fun y204 => (if a2.size ≤ 9223372036854775807 then ((some (bytesOf a2 : List Int)).bind fun y205 => (if y204.length + y205.length < 140737488355328 then (some (y204 ++ y205)) else (none))) else (none))) else (none))))))))) = some r := by first | (rw [hy188]; with_reducible exact H) | (have H2_ := (Option.bind_some _ _).symm.trans H; rw [hy188]; with_reducible exact H2_) | (have H2_ := (Option.bind_some _ _).symm.trans H; with_reducible exact H2_) | with_reducible exact H | (rw [hy188]; exact H) | exact H
 have Ny188 := am_ hy188
 clear hy188
 replace H := bm_ H
 obtain ⟨t191, A50, H⟩ := H
 replace H : ((gangwayref20_put.f k y188 0 t191).bind fun t194 => ((gangwayref20_Little.f k (IntKind.u64.wrap (a1)) 8).bind fun t195 => ((gangwayref20_put.f k t194 8 t195).bind fun t198 => ((gangwayref20_Little.f k (IntKind.u64.wrap ((a2.size : Int))) 4).bind fun t199 => ((gangwayref20_put.f k t198 16 t199).bind fun t202 => ((gangwayref20_filetype.f a3).bind fun t203 => (if 20 < (y188.length : Int) then ((some (t202.set (20 : Int).toNat t203 : List Int)).bind fun y204 => (if a2.size ≤ 9223372036854775807 then ((some (bytesOf a2 : List Int)).bind fun y205 => (if y204.length + y205.length < 140737488355328 then (some (y204 ++ y205)) else (none))) else (none))) else (none)))))))) = some r := H
 have A5 := am_ A50
 clear A50
 replace H := bm_ H
 obtain ⟨t194, A60, H⟩ := H
 replace H : ((gangwayref20_Little.f k (IntKind.u64.wrap (a1)) 8).bind fun t195 => ((gangwayref20_put.f k t194 8 t195).bind fun t198 => ((gangwayref20_Little.f k (IntKind.u64.wrap ((a2.size : Int))) 4).bind fun t199 => ((gangwayref20_put.f k t198 16 t199).bind fun t202 => ((gangwayref20_filetype.f a3).bind fun t203 => (if 20 < (y188.length : Int) then ((some (t202.set (20 : Int).toNat t203 : List Int)).bind fun y204 => (if a2.size ≤ 9223372036854775807 then ((some (bytesOf a2 : List Int)).bind fun y205 => (if y204.length + y205.length < 140737488355328 then (some (y204 ++ y205)) else (none))) else (none))) else (none))))))) = some r := H
 have A6 := am_ A60
 clear A60
 replace H := bm_ H
 obtain ⟨t195, A70, H⟩ := H
 replace H : ((gangwayref20_put.f k t194 8 t195).bind fun t198 => ((gangwayref20_Little.f k (IntKind.u64.wrap ((a2.size : Int))) 4).bind fun t199 => ((gangwayref20_put.f k t198 16 t199).bind fun t202 => ((gangwayref20_filetype.f a3).bind fun t203 => (if 20 < (y188.length : Int) then ((some (t202.set (20 : Int).toNat t203 : List Int)).bind fun y204 => (if a2.size ≤ 9223372036854775807 then ((some (bytesOf a2 : List Int)).bind fun y205 => (if y204.length + y205.length < 140737488355328 then (some (y204 ++ y205)) else (none))) else (none))) else (none)))))) = some r := H
 have A7 := am_ A70
 clear A70
 replace H := bm_ H
 obtain ⟨t198, A80, H⟩ := H
 replace H : ((gangwayref20_Little.f k (IntKind.u64.wrap ((a2.size : Int))) 4).bind fun t199 => ((gangwayref20_put.f k t198 16 t199).bind fun t202 => ((gangwayref20_filetype.f a3).bind fun t203 => (if 20 < (y188.length : Int) then ((some (t202.set (20 : Int).toNat t203 : List Int)).bind fun y204 => (if a2.size ≤ 9223372036854775807 then ((some (bytesOf a2 : List Int)).bind fun y205 => (if y204.length + y205.length < 140737488355328 then (some (y204 ++ y205)) else (none))) else (none))) else (none))))) = some r := H
 have A8 := am_ A80
 clear A80
 replace H := bm_ H
 obtain ⟨t199, A90, H⟩ := H
 replace H : ((gangwayref20_put.f k t198 16 t199).bind fun t202 => ((gangwayref20_filetype.f a3).bind fun t203 => (if 20 < (y188.length : Int) then ((some (t202.set (20 : Int).toNat t203 : List Int)).bind fun y204 => (if a2.size ≤ 9223372036854775807 then ((some (bytesOf a2 : List Int)).bind fun y205 => (if y204.length + y205.length < 140737488355328 then (some (y204 ++ y205)) else (none))) else (none))) else (none)))) = some r := H
 have A9 := am_ A90
 clear A90
 replace H := bm_ H
 obtain ⟨t202, A100, H⟩ := H
 replace H : ((gangwayref20_filetype.f a3).bind fun t203 => (if 20 < (y188.length : Int) then ((some (t202.set (20 : Int).toNat t203 : List Int)).bind fun y204 => (if a2.size ≤ 9223372036854775807 then ((some (bytesOf a2 : List Int)).bind fun y205 => (if y204.length + y205.length < 140737488355328 then (some (y204 ++ y205)) else (none))) else (none))) else (none))) = some r := H
 have A10 := am_ A100
 clear A100
 replace H := bm_ H
 obtain ⟨t203, A110, H⟩ := H
 replace H : (if 20 < (y188.length : Int) then ((some (t202.set (20 : Int).toNat t203 : List Int)).bind fun y204 => (if a2.size ≤ 9223372036854775807 then ((some (bytesOf a2 : List Int)).bind fun y205 => (if y204.length + y205.length < 140737488355328 then (some (y204 ++ y205)) else (none))) else (none))) else (none)) = some r := H
 have A11 := am_ A110
 clear A110
 by_cases c12 : 20 < (y188.length : Int)
 rotate_left
 ·rw [if_neg c12] at H
  exact absurd H (by simp)
 rw [if_pos c12] at H
 have c12b0 : decide (20 < (y188.length : Int)) = true := decide_eq_true c12
 have c12b1 : decide (20 < y188.length) = true := decide_eq_true (by omega)
 clear c12
 obtain ⟨y204, hy204⟩ : ∃ y_ : List Int, y_ = (t202.set (20 : Int).toNat t203) := ⟨_, rfl⟩
 replace H : (if a2.size ≤ 9223372036854775807 then ((some (bytesOf a2 : List Int)).bind fun y205 => (if y204.length + y205.length < 140737488355328 then (some (y204 ++ y205)) else (none))) else (none)) = some r := by first | (rw [hy204]; with_reducible exact H) | (have H2_ := (Option.bind_some _ _).symm.trans H; rw [hy204]; with_reducible exact H2_) | (have H2_ := (Option.bind_some _ _).symm.trans H; with_reducible exact H2_) | with_reducible exact H | (rw [hy204]; exact H) | exact H
 have Ny204 := am_ hy204
 clear hy204
 by_cases c14 : a2.size ≤ 9223372036854775807
 rotate_left
 ·rw [if_neg c14] at H
  exact absurd H (by simp)
 rw [if_pos c14] at H
 have LMc14 := am_ c14
 clear c14
 obtain ⟨y205, hy205⟩ : ∃ y_ : List Int, y_ = (bytesOf a2) := ⟨_, rfl⟩
 replace H : (if y204.length + y205.length < 140737488355328 then (some (y204 ++ y205)) else (none)) = some r := by first | (rw [hy205]; with_reducible exact H) | (have H2_ := (Option.bind_some _ _).symm.trans H; rw [hy205]; with_reducible exact H2_) | (have H2_ := (Option.bind_some _ _).symm.trans H; with_reducible exact H2_) | with_reducible exact H | (rw [hy205]; exact H) | exact H
 have Ny205 := am_ hy205
 clear hy205
 by_cases c15 : y204.length + y205.length < 140737488355328
 rotate_left
 ·rw [if_neg c15] at H
  exact absurd H (by simp)
 rw [if_pos c15] at H
 have LMc15 := am_ c15
 clear c15
 obtain ⟨y208, hy208⟩ : ∃ y_ : List Int, y_ = (y204 ++ y205) := ⟨_, rfl⟩
 replace H : (some y208) = some r := by first | (rw [hy208]; with_reducible exact H) | (have H2_ := (Option.bind_some _ _).symm.trans H; rw [hy208]; with_reducible exact H2_) | (have H2_ := (Option.bind_some _ _).symm.trans H; with_reducible exact H2_) | with_reducible exact H | (rw [hy208]; exact H) | exact H
 have Ny208 := am_ hy208
 clear hy208
 obtain rfl := Option.some.inj H
 go_enter Try.func17, Try.ntmps17
 go_wp2_with (first | ((with_reducible refine gate_dst (N := 10) rfl ?_); refine Kd.R_make (Kd.int .u8) _ 5 rfl (N := 10) rfl 23 _ _ rfl 24 rfl rfl Try.underlying23 (.int .u8 0) 1 info5 rfl (by decide) (by omega) 0 (ok := fun _ => True) (okp := fun _ => True) rfl (fun _ hk => hk) trivial (by omega) (by omega) (Below.refl _ _) (Nat.le_refl _) ?_; intro v189 w16 ho17 hb hg_ hnew_; clear hg_ hnew_; (first | rw [← Ny188.out] at ho17 | (simp only [Int.reduceToNat] at ho17; rw [← Ny188.out] at ho17)); have n0_ := am_ (Kd.R_lower ho17 (below_size aa_0)); have n1_ := am_ (below_step aa_0 hb); clear HB; have HO190 := n0_; have HB := n1_; clear n0_ n1_; clear hb ho17) | ((with_reducible refine gate_callee (f := 34) rfl ?_); refine goesL_ (some 14) rfl rfl Try.func34 (by kernel_rfl) rfl #[.int .u64 (IntKind.u64.wrap (a0)), .int .i64 8] rfl aa_1 ?_; (with_reducible refine (gangwayref20_Little.calls k (IntKind.u64.wrap (a0)) 8 t191 _ A5.out).mono ?_); rintro e w18 ⟨v192, rfl, ho0, hb⟩; refine ⟨_, rfl, ?_⟩; have n0_ := am_ (Kd.R_elder' aa_3 (Kd.R_base ho0) hb); have n1_ := am_ (Kd.R_lower (Kd.R_new' ho0 (Kd.R_lt aa_3)) (below_size aa_0)); have n2_ := am_ (below_step aa_0 hb); clear HO190; clear HB; have HO190 := n0_; have HO193 := n1_; have HB := n2_; clear n0_ n1_ n2_; (try clear hb); (try clear hb2); (try clear hk); (try clear hi); (try clear ho0); obtain ⟨Ao19, co19, eo19⟩ := Kd.R_slice HO190.out; subst eo19; obtain ⟨Ao20, co20, eo20⟩ := Kd.R_slice HO193.out; subst eo20) | ((with_reducible refine gate_callee (f := 33) rfl ?_); refine goesL_ (some 15) rfl rfl Try.func33 (by kernel_rfl) rfl #[.slice Ao19 y188.length co19, .int .i64 0, .slice Ao20 t191.length co20] rfl aa_1 ?_; (with_reducible refine (gangwayref20_put.calls k (fun k_ => some k_ = (.slice Ao19 y188.length co19 : Value).ownBlock) (.slice Ao19 y188.length co19) y188 0 _ _ t191 t194 w _ ?side1 ?side2 ?side3 ?side4 A6.out).mono ?_); (case side1 => exact aa_0); (case side2 => exact Kd.R_tight rfl HO190.out); (case side3 => exact Kd.C_kept_own (HO193.out) (fun k_ hk_ hs_ => (hk_.2) hs_)); (case side4 => exact (Kd.R_reads' HO193.out).2.1); rintro e w21 ⟨rfl, hy0, hb, hkp⟩; refine ⟨_, rfl, ?_⟩; (try obtain ⟨hlew21_0, hgew21_0⟩ := Go.Proofs.YthhmnecnoojcpaaO.R_lens hy0); have n0_ := am_ (Kd.R_reok rfl hy0 (fun k_ e_ => HO190.out.1 k_ e_)); have n1_ := am_ (Kd.R_mono (ok' := fun k_ => some k_ ≠ (.slice Ao19 y188.length co19 : Value).ownBlock) (Kd.R_keptB (HO193.out) hkp (fun k_ hk_ hs_ => (hk_.2) hs_)) (fun k_ hk_ => hk_.1.2)); have n2_ := am_ (hb); clear HO190; clear HO193; clear HB; have HO190 := n0_; have HO193 := n1_; have HB := n2_; clear n0_ n1_ n2_; (try clear hb); (try clear hkp); (try clear hy0)) | ((with_reducible refine gate_callee (f := 34) rfl ?_); refine goesL_ (some 19) rfl rfl Try.func34 (by kernel_rfl) rfl #[.int .u64 (IntKind.u64.wrap (a1)), .int .i64 8] rfl aa_1 ?_; (with_reducible refine (gangwayref20_Little.calls k (IntKind.u64.wrap (a1)) 8 t195 _ A7.out).mono ?_); rintro e w22 ⟨v196, rfl, ho0, hb⟩; refine ⟨_, rfl, ?_⟩; have n0_ := am_ (Kd.R_elder' aa_3 (Kd.R_base ho0) hb); have n1_ := am_ (Kd.R_elder' aa_2 (Kd.R_base ho0) hb); have n2_ := am_ (Kd.R_lower (Kd.R_new' (Kd.R_new' ho0 (Kd.R_lt aa_3)) (Kd.R_lt aa_2)) (below_size aa_0)); have n3_ := am_ (below_step aa_0 hb); clear HO190; clear HO193; clear HB; have HO190 := n0_; have HO193 := n1_; have HO197 := n2_; have HB := n3_; clear n0_ n1_ n2_ n3_; (try clear hb); (try clear hb2); (try clear hk); (try clear hi); (try clear ho0); obtain ⟨Ao23, co23, eo23⟩ := Kd.R_slice HO197.out; subst eo23) | ((with_reducible refine gate_callee (f := 33) rfl ?_); refine goesL_ (some 20) rfl rfl Try.func33 (by kernel_rfl) rfl #[.slice Ao19 y188.length co19, .int .i64 8, .slice Ao23 t195.length co23] rfl aa_1 ?_; (with_reducible refine (gangwayref20_put.calls k (fun k_ => some k_ = (.slice Ao19 y188.length co19 : Value).ownBlock) (.slice Ao19 y188.length co19) t194 8 _ _ t195 t198 w _ ?side1 ?side2 ?side3 ?side4 A8.out).mono ?_); (case side1 => exact aa_0); (case side2 => exact Kd.R_tight rfl HO190.out); (case side3 => exact Kd.C_kept_own (HO197.out) (fun k_ hk_ hs_ => (hk_.1.2) hs_)); (case side4 => exact (Kd.R_reads' HO197.out).2.1); rintro e w24 ⟨rfl, hy0, hb, hkp⟩; refine ⟨_, rfl, ?_⟩; (try obtain ⟨hlew24_0, hgew24_0⟩ := Go.Proofs.YthhmnecnoojcpaaO.R_lens hy0); have n0_ := am_ (Kd.R_reok rfl hy0 (fun k_ e_ => HO190.out.1 k_ e_)); have n1_ := am_ (Kd.R_mono (ok' := fun k_ => some k_ ≠ (.slice Ao19 y188.length co19 : Value).ownBlock ∧ some k_ ≠ (.slice Ao23 t195.length co23 : Value).ownBlock) (Kd.R_keptB (HO193.out) hkp (fun k_ hk_ hs_ => (hk_.1) hs_)) (fun k_ hk_ => ⟨hk_.1.1, hk_.1.2⟩)); have n2_ := am_ (Kd.R_mono (ok' := fun k_ => some k_ ≠ (.slice Ao19 y188.length co19 : Value).ownBlock ∧ some k_ ≠ (.slice Ao20 t191.length co20 : Value).ownBlock) (Kd.R_keptB (HO197.out) hkp (fun k_ hk_ hs_ => (hk_.1.2) hs_)) (fun k_ hk_ => ⟨hk_.1.1.2, hk_.1.2⟩)); have n3_ := am_ (hb); clear HO190; clear HO193; clear HO197; clear HB; have HO190 := n0_; have HO193 := n1_; have HO197 := n2_; have HB := n3_; clear n0_ n1_ n2_ n3_; (try clear hb); (try clear hkp); (try clear hy0)) | ((with_reducible refine gate_callee (f := 34) rfl ?_); refine goesL_ (some 25) rfl rfl Try.func34 (by kernel_rfl) rfl #[.int .u64 (IntKind.u64.wrap ((a2.size : Int))), .int .i64 4] rfl aa_1 ?_; (with_reducible refine (gangwayref20_Little.calls k (IntKind.u64.wrap ((a2.size : Int))) 4 t199 _ A9.out).mono ?_); rintro e w25 ⟨v200, rfl, ho0, hb⟩; refine ⟨_, rfl, ?_⟩; have n0_ := am_ (Kd.R_elder' aa_3 (Kd.R_base ho0) hb); have n1_ := am_ (Kd.R_elder' aa_2 (Kd.R_base ho0) hb); have n2_ := am_ (Kd.R_elder' aa_4 (Kd.R_base ho0) hb); have n3_ := am_ (Kd.R_lower (Kd.R_new' (Kd.R_new' (Kd.R_new' ho0 (Kd.R_lt aa_3)) (Kd.R_lt aa_2)) (Kd.R_lt aa_4)) (below_size aa_0)); have n4_ := am_ (below_step aa_0 hb); clear HO190; clear HO193; clear HO197; clear HB; have HO190 := n0_; have HO193 := n1_; have HO197 := n2_; have HO201 := n3_; have HB := n4_; clear n0_ n1_ n2_ n3_ n4_; (try clear hb); (try clear hb2); (try clear hk); (try clear hi); (try clear ho0); obtain ⟨Ao26, co26, eo26⟩ := Kd.R_slice HO201.out; subst eo26) | ((with_reducible refine gate_callee (f := 33) rfl ?_); refine goesL_ (some 26) rfl rfl Try.func33 (by kernel_rfl) rfl #[.slice Ao19 y188.length co19, .int .i64 16, .slice Ao26 t199.length co26] rfl aa_1 ?_; (with_reducible refine (gangwayref20_put.calls k (fun k_ => some k_ = (.slice Ao19 y188.length co19 : Value).ownBlock) (.slice Ao19 y188.length co19) t198 16 _ _ t199 t202 w _ ?side1 ?side2 ?side3 ?side4 A10.out).mono ?_); (case side1 => exact aa_0); (case side2 => exact Kd.R_tight rfl HO190.out); (case side3 => exact Kd.C_kept_own (HO201.out) (fun k_ hk_ hs_ => (hk_.1.1.2) hs_)); (case side4 => exact (Kd.R_reads' HO201.out).2.1); rintro e w27 ⟨rfl, hy0, hb, hkp⟩; refine ⟨_, rfl, ?_⟩; (try obtain ⟨hlew27_0, hgew27_0⟩ := Go.Proofs.YthhmnecnoojcpaaO.R_lens hy0); have n0_ := am_ (Kd.R_reok rfl hy0 (fun k_ e_ => HO190.out.1 k_ e_)); have n1_ := am_ (Kd.R_mono (ok' := fun k_ => some k_ ≠ (.slice Ao19 y188.length co19 : Value).ownBlock ∧ some k_ ≠ (.slice Ao23 t195.length co23 : Value).ownBlock ∧ some k_ ≠ (.slice Ao26 t199.length co26 : Value).ownBlock) (Kd.R_keptB (HO193.out) hkp (fun k_ hk_ hs_ => (hk_.1.1) hs_)) (fun k_ hk_ => ⟨hk_.1.1.1, hk_.1.1.2, hk_.1.2⟩)); have n2_ := am_ (Kd.R_mono (ok' := fun k_ => some k_ ≠ (.slice Ao19 y188.length co19 : Value).ownBlock ∧ some k_ ≠ (.slice Ao20 t191.length co20 : Value).ownBlock ∧ some k_ ≠ (.slice Ao26 t199.length co26 : Value).ownBlock) (Kd.R_keptB (HO197.out) hkp (fun k_ hk_ hs_ => (hk_.1.1) hs_)) (fun k_ hk_ => ⟨hk_.1.1.1, hk_.1.1.2, hk_.1.2⟩)); have n3_ := am_ (Kd.R_mono (ok' := fun k_ => some k_ ≠ (.slice Ao19 y188.length co19 : Value).ownBlock ∧ some k_ ≠ (.slice Ao20 t191.length co20 : Value).ownBlock ∧ some k_ ≠ (.slice Ao23 t195.length co23 : Value).ownBlock) (Kd.R_keptB (HO201.out) hkp (fun k_ hk_ hs_ => (hk_.1.1.2) hs_)) (fun k_ hk_ => ⟨hk_.1.1.1.2, hk_.1.1.2, hk_.1.2⟩)); have n4_ := am_ (hb); clear HO190; clear HO193; clear HO197; clear HO201; clear HB; have HO190 := n0_; have HO193 := n1_; have HO197 := n2_; have HO201 := n3_; have HB := n4_; clear n0_ n1_ n2_ n3_ n4_; (try clear hb); (try clear hkp); (try clear hy0)) | ((with_reducible refine gate_callee (f := 37) rfl ?_); refine goesL_ (some 29) rfl rfl Try.func37 (by kernel_rfl) rfl #[.int .i64 a3] rfl aa_1 ?_; (with_reducible refine (gangwayref20_filetype.calls a3 t203 _ A11.out).mono ?_); rintro e w' ⟨rfl, ⟨nd, rfl⟩⟩; refine ⟨_, rfl, ?_⟩; (try (rw [drewN_self w27]; generalize hq_ : World.drewN w27 _ = w27; have n0_ : Aside0 (Kd.R (Kd.int .u8) 5 w27 w.heap.size (fun k_ => some k_ ≠ (.slice Ao20 t191.length co20 : Value).ownBlock ∧ some k_ ≠ (.slice Ao23 t195.length co23 : Value).ownBlock ∧ some k_ ≠ (.slice Ao26 t199.length co26 : Value).ownBlock) (.slice Ao19 y188.length co19) t202) := ⟨by rw [← hq_]; exact (by (with_reducible repeat (first | apply Kd.R_alloc | apply Kd.R_drewN | apply Kd.R_drew)); exact Kd.R_mono HO190.out (fun _ hk => ⟨hk.1.1.2, ⟨hk.1.2, hk.2⟩⟩))⟩; have n1_ : Aside0 (Kd.R (Kd.int .u8) 5 w27 w.heap.size (fun k_ => some k_ ≠ (.slice Ao19 y188.length co19 : Value).ownBlock ∧ some k_ ≠ (.slice Ao23 t195.length co23 : Value).ownBlock ∧ some k_ ≠ (.slice Ao26 t199.length co26 : Value).ownBlock) (.slice Ao20 t191.length co20) t191) := ⟨by rw [← hq_]; exact aa_2⟩; have n2_ : Aside0 (Kd.R (Kd.int .u8) 5 w27 w.heap.size (fun k_ => some k_ ≠ (.slice Ao19 y188.length co19 : Value).ownBlock ∧ some k_ ≠ (.slice Ao20 t191.length co20 : Value).ownBlock ∧ some k_ ≠ (.slice Ao26 t199.length co26 : Value).ownBlock) (.slice Ao23 t195.length co23) t195) := ⟨by rw [← hq_]; exact aa_4⟩; have n3_ : Aside0 (Kd.R (Kd.int .u8) 5 w27 w.heap.size (fun k_ => some k_ ≠ (.slice Ao19 y188.length co19 : Value).ownBlock ∧ some k_ ≠ (.slice Ao20 t191.length co20 : Value).ownBlock ∧ some k_ ≠ (.slice Ao23 t195.length co23 : Value).ownBlock) (.slice Ao26 t199.length co26) t199) := ⟨by rw [← hq_]; exact (by (with_reducible repeat (first | apply Kd.R_alloc | apply Kd.R_drewN | apply Kd.R_drew)); exact HO201.out)⟩; have n4_ : Aside0 (Below w.heap.size w w27) := ⟨by rw [← hq_]; exact aa_0⟩; clear HO190 HO193 HO197 HO201 HB hq_; have HO190 := n0_; have HO193 := n1_; have HO197 := n2_; have HO201 := n3_; have HB := n4_; clear n0_ n1_ n2_ n3_ n4_)); have p13 : 0 ≤ (20 : Int) := (by omega); have q13 : (20 : Int) < ((y188.length : Int) : Int) := of_decide_eq_true (by first | (with_reducible assumption) | assumption); have qi13 : (20 < y188.length) = True := eq_true (by omega); obtain ⟨go13, co13, eo13, gb13, gl13, cl13, HG13⟩ := Kd.R_form HO190.out (by omega); (first | cases eo13 | (injection eo13 with ea_ en_ ec_; (first | subst ea_ | (injection ea_ with ea_; subst ea_)); subst ec_; clear en_)); have GB13 := am_ gb13; have GG13 := am_ HG13; clear gb13 gl13 HG13; obtain ⟨hx13_0, hf13_0⟩ := Kd.R_celln 0 HO190.out (20 : Int) p13 q13; (try rw [show ((20 : Int)).toNat = 20 from rfl] at hx13_0); (try simp only [Nat.reduceMul, Nat.zero_mul, Nat.zero_add, Nat.reduceAdd] at hx13_0); (try rw [show ((20 : Int)).toNat = 20 from rfl] at hf13_0); (try simp only [Nat.reduceMul, Nat.zero_mul, Nat.zero_add, Nat.reduceAdd] at hf13_0); replace p13 := eq_true p13; replace q13 := eq_true q13; have n_ := am_ (show Kd.R _ _ _ _ ((fun k_ => some k_ ≠ (.slice Ao20 t191.length co20 : Value).ownBlock ∧ some k_ ≠ (.slice Ao23 t195.length co23 : Value).ownBlock ∧ some k_ ≠ (.slice Ao26 t199.length co26 : Value).ownBlock)) _ _ from by first | exact (Kd.R_mono HO190.out (fun k_ hk => ⟨hk.1.1.2, ⟨hk.1.2, hk.2⟩⟩)) | exact HO190.out); clear HO190; have HO190 := n_; clear n_; obtain ⟨hy28_, hz28_⟩ := Kd.R_celln 0 HO190.out (20 : Int) (by omega) (of_decide_eq_true (by first | (with_reducible assumption) | assumption)); (try simp only [Int.reduceToNat, Int.toNat_zero, Int.toNat_ofNat, Nat.reduceMul, Nat.zero_mul, Nat.zero_add] at hy28_ hz28_); (try rw [show ((20 : Int)).toNat = 20 from rfl] at hy28_); (try rw [show ((20 : Int)).toNat = 20 from rfl] at hz28_); have HP28 := Kd.R_putg HO190.out (20 : Int) t203) | ((with_reducible refine gate_store (t := 5) (p := 30) rfl ?_); refine store_event (t := 5) (p := 30) (v := ?vo_w29) (w1 := (w27.setCell ⟨go13, (20 : Int).toNat, none⟩ (.int .u8 t203))) ?hg ?ho ?hn ?hr ?_; (case ho => rfl); (case hg => rfl); (case hn => rfl); (case hr => first | (go_simp; done) | (go_simp; rfl)); intro w29 hw; have hg : w27.grownBy w29 (some go13) := (by rw [hw]; exact HP28.2); have hp_ : Kd.R (Kd.int .u8) 5 w29 w.heap.size (fun k_ => some k_ ≠ (.slice Ao20 t191.length co20 : Value).ownBlock ∧ some k_ ≠ (.slice Ao23 t195.length co23 : Value).ownBlock ∧ some k_ ≠ (.slice Ao26 t199.length co26 : Value).ownBlock) (.slice (some ⟨go13, 0, none⟩) y188.length co19) y204 := (by rw [hw, Ny204.out]; exact HP28.1); clear HP28; have n0_ := am_ (hp_); have n1_ := am_ (Kd.R_after (v := (.slice (some ⟨go13, 0, none⟩) y188.length co19)) (v1 := (.slice (some ⟨go13, 0, none⟩) y188.length co19)) (ok := (fun k_ => some k_ ≠ (.slice Ao23 t195.length co23 : Value).ownBlock ∧ some k_ ≠ (.slice Ao26 t199.length co26 : Value).ownBlock)) (by (with_reducible repeat (first | apply Kd.R_alloc | apply Kd.R_drewN | apply Kd.R_drew)); exact Kd.R_mono HO193.out (fun _ hk => ⟨⟨hk.2.1, hk.2.2⟩, hk.1⟩)) hg (.inl rfl)); have n2_ := am_ (Kd.R_after (v := (.slice (some ⟨go13, 0, none⟩) y188.length co19)) (v1 := (.slice (some ⟨go13, 0, none⟩) y188.length co19)) (ok := (fun k_ => some k_ ≠ (.slice Ao20 t191.length co20 : Value).ownBlock ∧ some k_ ≠ (.slice Ao26 t199.length co26 : Value).ownBlock)) (by (with_reducible repeat (first | apply Kd.R_alloc | apply Kd.R_drewN | apply Kd.R_drew)); exact Kd.R_mono HO197.out (fun _ hk => ⟨⟨hk.2.1, hk.2.2⟩, hk.1⟩)) hg (.inl rfl)); have n3_ := am_ (Kd.R_after (v := (.slice (some ⟨go13, 0, none⟩) y188.length co19)) (v1 := (.slice (some ⟨go13, 0, none⟩) y188.length co19)) (ok := (fun k_ => some k_ ≠ (.slice Ao20 t191.length co20 : Value).ownBlock ∧ some k_ ≠ (.slice Ao23 t195.length co23 : Value).ownBlock)) (by (with_reducible repeat (first | apply Kd.R_alloc | apply Kd.R_drewN | apply Kd.R_drew)); exact Kd.R_mono HO201.out (fun _ hk => ⟨⟨hk.2.1, hk.2.2⟩, hk.1⟩)) hg (.inl rfl)); have n4_ := am_ ((by rw [hw]; exact below_set (HB.out) GB13.out : Below w.heap.size w w29)); clear HO190; clear HO193; clear HO197; clear HO201; clear HB; have HO190 := n0_; have HO193 := n1_; have HO197 := n2_; have HO201 := n3_; have HB := n4_; clear n0_ n1_ n2_ n3_ n4_; clear hg hw hp_) | ((with_reducible refine gate_dst (N := 33) rfl ?_); refine Go.Proofs.YthhmnecnoojcpaaO.bytes_event ?hg (N := 33) ?hd 9 23 5 Try.underlying9 Try.underlying23 Try.underlying5 (x := ?xb_w30) ?ho (s := a2) ?hx (l := y205) Ny205.out LMc14.out ?_; (case hd => rfl); (case hg => rfl); (case ho => rfl); (case hx => rfl); intro A207 c207 w30 hr_ hc_ hb; have n0_ := am_ (Kd.R_below aa_3 hb); have n1_ := am_ (Kd.R_below aa_2 hb); have n2_ := am_ (Kd.R_below aa_4 hb); have n3_ := am_ (Kd.R_below (by (with_reducible repeat (first | apply Kd.R_alloc | apply Kd.R_drewN | apply Kd.R_drew)); exact HO201.out) hb); have n4_ := am_ (hr_); have n5_ := am_ (hc_); have n6_ := am_ (below_step aa_0 hb); clear HO190; clear HO193; clear HO197; clear HO201; clear HB; have HO190 := n0_; have HO193 := n1_; have HO197 := n2_; have HO201 := n3_; have HR207 := n4_; have HC207 := n5_; have HB := n6_; clear n0_ n1_ n2_ n3_ n4_ n5_ n6_; clear hb hr_ hc_) | ((with_reducible refine gate_builtin (b := .append) (xs := #[.tmp 31, .tmp 33]) rfl ?_); at_builtin; refine Kd.R_append_rows (Kd.int .u8) (w0 := w) w.heap.size rfl (.tmp 31) (.tmp 33) 23 5 (.int .u8 0) 1 rfl Try.underlying23 info5 rfl (by decide) (by omega) (.slice (some ⟨go13, 0, none⟩) y188.length co19) y204 y205 _ _ _ (fun k_ => some k_ ≠ (.slice Ao20 t191.length co20 : Value).ownBlock ∧ some k_ ≠ (.slice Ao23 t195.length co23 : Value).ownBlock ∧ some k_ ≠ (.slice Ao26 t199.length co26 : Value).ownBlock) (fun _ => False) rfl rfl ?aO ?aR (fun _ _ h => h) (fun _ h => h.elim) ?aF ?aB ?aS ?aL ?_; (case aR => repeat (first | exact (by repeat (first | (with_reducible exact HR207.out) | (with_reducible refine Kd.C_alloc ?_ _) | (with_reducible refine Kd.C_drewN ?_ _) | (with_reducible refine Kd.C_drew ?_) | exact HR207.out)) | (with_reducible refine Kd.C_alloc ?_ _) | (with_reducible refine Kd.C_drewN ?_ _) | (with_reducible refine Kd.C_drew ?_))); (case aB => exact aa_0); (case aF => exact (fun k_ hk => ⟨Kd.fresh' (Kd.R_lt aa_2) k_ hk, Kd.fresh' (Kd.R_lt aa_4) k_ hk, Kd.fresh' (Kd.R_lt (by (with_reducible repeat (first | apply Kd.R_alloc | apply Kd.R_drewN | apply Kd.R_drew)); exact HO201.out)) k_ hk⟩)); (case aO => exact aa_3); (case aS => exact (below_size aa_0)); (case aL => have := LMc15.out; omega); intro v209 w31 ho hb hg hat; rw [← Ny208.out] at ho; have n0_ := am_ (Kd.R_after (ok := (fun k_ => some k_ ≠ (.slice Ao23 t195.length co23 : Value).ownBlock ∧ some k_ ≠ (.slice Ao26 t199.length co26 : Value).ownBlock)) aa_2 hg hat); have n1_ := am_ (Kd.R_after (ok := (fun k_ => some k_ ≠ (.slice Ao20 t191.length co20 : Value).ownBlock ∧ some k_ ≠ (.slice Ao26 t199.length co26 : Value).ownBlock)) aa_4 hg hat); have n2_ := am_ (Kd.R_after (ok := (fun k_ => some k_ ≠ (.slice Ao20 t191.length co20 : Value).ownBlock ∧ some k_ ≠ (.slice Ao23 t195.length co23 : Value).ownBlock)) (by (with_reducible repeat (first | apply Kd.R_alloc | apply Kd.R_drewN | apply Kd.R_drew)); exact HO201.out) hg hat); have n3_ := am_ (hb); have n4_ := am_ (ho); clear HO193; clear HO197; clear HO201; clear HB; clear HO190; have HO193 := n0_; have HO197 := n1_; have HO201 := n2_; have HB := n3_; have HO210 := n4_; clear n0_ n1_ n2_ n3_ n4_; clear ho hb hg hat))
 go_ret
 exact ⟨_, by first | rfl | (simp [errW_none, errW_some] <;> rfl) | (simp [*, errW_none, errW_some] <;> rfl), by (with_reducible repeat (first | apply Kd.R_alloc | apply Kd.R_drewN | apply Kd.R_drew)); exact Kd.R_mono HO210.out (fun _ hk => trivial), by repeat (first | (with_reducible first | exact HB.out | apply below_alloc | apply pw_below_drewN | apply below_drew1) | exact HB.out)⟩
end Go.Proofs.Ythhmnecnoojcpaa.PAll
