/- Printed by a copy of the printer that was turned for this claim: functions as plain Lean functions, with proofs that their calls come to these; or words that such proofs use. -/
import Derived.Test.YthhmnecnoojcpaaPAllx0
import Derived.Test.YthhmnecnoojcpaaPAllx3
namespace Go.Proofs.Ythhmnecnoojcpaa.PAll
open Go.RowKit Go.Proofs.YthhmnecnoojcpaaW.PrintWords Go.Proofs.YthhmnecnoojcpaaW.PrintLast Go.Proofs.YthhmnecnoojcpaaW.PrintMore
attribute [local go_sem] max2_int min2_int max_two min_two max_three min_three max_four min_four   -- for this text's walks alone
set_option linter.unusedVariables false
set_option linter.unusedSimpArgs false

/-! ### gangwayref20_Fdstat: function 23 -/
abbrev gangwayref20_Fdstat.t : Bool := true
abbrev gangwayref20_Fdstat.f_ : Bool := false
theorem gangwayref20_Fdstat.bc {w : World} {g : Nat} {cs : Array Value} {t : TypeId} (h : Aside0 (w.heap[g]? = some (.cells cs t (0, 0)))) (i : Nat) {v : Value} (e : cs[i]? = some v := by rfl) : w.cell? ⟨g, i, none⟩ = some v := (blk_cell h.out i).trans e
theorem gangwayref20_Fdstat.bkept {W0 W W2 : World} {g : Nat} {o : Obj} {S : Nat → Prop} (_b : Aside0 (W0.heap[g]? = some o)) (h : W.heap[g]? = some o) (hk : Kept W W2 S) (hn : ¬ S g) : W2.heap[g]? = some o := blk_kept h hk hn
theorem gangwayref20_Fdstat.bbelow {W0 w w1 : World} {g : Nat} {o : Obj} (_b : Aside0 (W0.heap[g]? = some o)) (h : w.heap[g]? = some o) (hb : Below w.heap.size w w1) : w1.heap[g]? = some o := blk_below h hb
theorem gangwayref20_Fdstat.e1 {α : Type _} (xs : List α) (i : Nat) (a : α) : xs.toArray.setIfInBounds i a = (xs.set i a).toArray := by simp
theorem gangwayref20_Fdstat.e2 {α : Type _} (x a : α) (xs : List α) : (x :: xs).set 0 a = a :: xs := rfl
theorem gangwayref20_Fdstat.e3 {α : Type _} (x a : α) (xs : List α) (n : Nat) : (x :: xs).set (n + 1) a = x :: xs.set n a := rfl
mutual
def gangwayref20_Fdstat.j0 : Nat → List Int → Int → Int → Int → Int → Int → Int → ByteArray → Option (List Int)
 | 0, _, _, _, _, _, _, _, _ => none
 | k + 1, x3, x0z, x1z, x2z, x3z, x4z, x5z, x6z => if x0z = 5 then (if 0 < (x3.length : Int) then (gangwayref20_Fdstat.j1 k (x3.set (0 : Int).toNat 4) x0z x1z x2z x3z x4z x5z x6z) else (none)) else (gangwayref20_Fdstat.j1 k x3 x0z x1z x2z x3z x4z x5z x6z)
def gangwayref20_Fdstat.j1 : Nat → List Int → Int → Int → Int → Int → Int → Int → ByteArray → Option (List Int)
 | 0, _, _, _, _, _, _, _, _ => none
 | k + 1, x3, x0z, x1z, x2z, x3z, x4z, x5z, x6z => (gangwayref20_Little.f k (IntKind.u64.wrap (x3z)) 2).bind fun t310 => ((gangwayref20_put.f k x3 2 t310).bind fun t313 => ((gangwayref20_Little.f k (IntKind.u64.wrap (x4z)) 8).bind fun t314 => ((gangwayref20_put.f k t313 8 t314).bind fun t317 => ((gangwayref20_Little.f k (IntKind.u64.wrap (x5z)) 8).bind fun t318 => ((gangwayref20_put.f k t317 16 t318).bind fun t321 => (some t321))))))
end
def gangwayref20_Fdstat.f (k : Nat) (a0_0 : Int) (a0_1 : Int) (a0_2 : Int) (a0_3 : Int) (a0_4 : Int) (a0_5 : Int) (a0_6 : ByteArray) : Option (List Int) := (some (List.replicate 24 0 : List Int)).bind fun y304 => (if 0 < (y304.length : Int) then ((some (y304.set (0 : Int).toNat 2 : List Int)).bind fun y307 => (if a0_0 = 4 then (gangwayref20_Fdstat.j0 k (y307.set (0 : Int).toNat 3) a0_0 a0_1 a0_2 a0_3 a0_4 a0_5 a0_6) else (gangwayref20_Fdstat.j0 k y307 a0_0 a0_1 a0_2 a0_3 a0_4 a0_5 a0_6))) else (none))
theorem gangwayref20_Fdstat.mono_l : ∀ k, (∀ y0 y1 y2 y3 y4 y5 y6 y7, LeO (gangwayref20_Fdstat.j0 k y0 y1 y2 y3 y4 y5 y6 y7) (gangwayref20_Fdstat.j0 (k + 1) y0 y1 y2 y3 y4 y5 y6 y7)) ∧ (∀ y0 y1 y2 y3 y4 y5 y6 y7, LeO (gangwayref20_Fdstat.j1 k y0 y1 y2 y3 y4 y5 y6 y7) (gangwayref20_Fdstat.j1 (k + 1) y0 y1 y2 y3 y4 y5 y6 y7))
 | 0 => ⟨fun _ _ _ _ _ _ _ _ r h => by simp [gangwayref20_Fdstat.j0] at h, fun _ _ _ _ _ _ _ _ r h => by simp [gangwayref20_Fdstat.j1] at h⟩
 | k + 1 => by
  obtain ⟨ih0, ih1⟩ := gangwayref20_Fdstat.mono_l k
  refine ⟨?_, ?_⟩
  ·intro y0 y1 y2 y3 y4 y5 y6 y7
   unfold gangwayref20_Fdstat.j0
   repeat' first
   | (with_reducible apply ih0)
   | (with_reducible apply ih1)
   | (with_reducible exact gangwayref20_Little.mono _ _ _)
   | (with_reducible exact gangwayref20_put.mono _ _ _ _)
   | (with_reducible exact LeO.refl _)
   | (with_reducible exact LeO.none _)
   | (with_reducible refine LeO.ite ?_ ?_)
   | (with_reducible refine LeO.bind ?_ (fun _ => ?_))
   | apply ih0
   | apply ih1
   | exact gangwayref20_Little.mono _ _ _
   | exact gangwayref20_put.mono _ _ _ _
   | exact LeO.none _
   | refine LeO.ite ?_ ?_
   | refine LeO.bind ?_ (fun _ => ?_)
  ·intro y0 y1 y2 y3 y4 y5 y6 y7
   unfold gangwayref20_Fdstat.j1
   repeat' first
   | (with_reducible apply ih0)
   | (with_reducible apply ih1)
   | (with_reducible exact gangwayref20_Little.mono _ _ _)
   | (with_reducible exact gangwayref20_put.mono _ _ _ _)
   | (with_reducible exact LeO.refl _)
   | (with_reducible exact LeO.none _)
   | (with_reducible refine LeO.ite ?_ ?_)
   | (with_reducible refine LeO.bind ?_ (fun _ => ?_))
   | apply ih0
   | apply ih1
   | exact gangwayref20_Little.mono _ _ _
   | exact gangwayref20_put.mono _ _ _ _
   | exact LeO.none _
   | refine LeO.ite ?_ ?_
   | refine LeO.bind ?_ (fun _ => ?_)
theorem gangwayref20_Fdstat.mono : ∀ a0 a1 a2 a3 a4 a5 a6 k, LeO (gangwayref20_Fdstat.f k a0 a1 a2 a3 a4 a5 a6) (gangwayref20_Fdstat.f (k + 1) a0 a1 a2 a3 a4 a5 a6) := by
 intro a0 a1 a2 a3 a4 a5 a6 k
 obtain ⟨ih0, ih1⟩ := gangwayref20_Fdstat.mono_l k
 unfold gangwayref20_Fdstat.f
 repeat' first
   | (with_reducible apply ih0)
   | (with_reducible apply ih1)
   | (with_reducible exact gangwayref20_Little.mono _ _ _)
   | (with_reducible exact gangwayref20_put.mono _ _ _ _)
   | (with_reducible exact LeO.refl _)
   | (with_reducible exact LeO.none _)
   | (with_reducible refine LeO.ite ?_ ?_)
   | (with_reducible refine LeO.bind ?_ (fun _ => ?_))
   | apply ih0
   | apply ih1
   | exact gangwayref20_Little.mono _ _ _
   | exact gangwayref20_put.mono _ _ _ _
   | exact LeO.none _
   | refine LeO.ite ?_ ?_
   | refine LeO.bind ?_ (fun _ => ?_)
theorem gangwayref20_Fdstat.aa_0 {p : Prop} (h : p := by repeat (first | (with_reducible first | exact HB.out | apply below_alloc | apply pw_below_drewN | apply below_drew1 | refine below_set ?_ GE303.out) | exact HB.out)) : p := h
theorem gangwayref20_Fdstat.aa_1 {p : Prop} (h : p := by (with_reducible repeat (first | refine blk_drewN ?_ _ | refine blk_drew ?_ | refine blk_alloc ?_ _)); exact BK303.out) : p := h
theorem gangwayref20_Fdstat.aa_2 {p : Prop} (h : p := by (try simp only [List.map_toArray, List.map_cons, List.map_nil]); first | done | rfl | (simp only [List.length_drop, List.length_take]; rfl)) : p := h
theorem gangwayref20_Fdstat.aa_3 {p : Prop} (h : p := by (with_reducible repeat (first | apply Kd.R_alloc | apply Kd.R_drewN | apply Kd.R_drew)); exact HO_3.out) : p := h
theorem gangwayref20_Fdstat.aa_4 {p : Prop} (h : p := by (with_reducible repeat (first | apply Kd.R_alloc | apply Kd.R_drewN | apply Kd.R_drew)); exact HO306.out) : p := h
theorem gangwayref20_Fdstat.am_ {p : Prop} (h : p) : Aside0 p := Aside0.mk h
theorem gangwayref20_Fdstat.bm_ {α β : Type _} {o : Option α} {f : α → Option β} {b : β} (h : o.bind f = some b) : ∃ a, o = some a ∧ f a = some b := Option.bind_eq_some_iff.mp h
set_option maxHeartbeats 8000000 in
set_option maxRecDepth 100000 in
theorem gangwayref20_Fdstat.calls (k : Nat) (a0_0 : Int) (a0_1 : Int) (a0_2 : Int) (a0_3 : Int) (a0_4 : Int) (a0_5 : Int) (a0_6 : ByteArray) (r : List Int) (w : World) (h : gangwayref20_Fdstat.f k a0_0 a0_1 a0_2 a0_3 a0_4 a0_5 a0_6 = some r) :
  Calls Try.prog 23 #[.agg #[.int .i64 a0_0, .int .i64 a0_1, .int .i64 a0_2, .int .i64 a0_3, .int .i64 a0_4, .int .i64 a0_5, .string a0_6]] w fun e w' => ∃ v0_ : Value, e = .returned (v0_) ∧ Kd.R (Kd.int .u8) 5 w' w.heap.size (fun _ => True) v0_ r ∧ Below w.heap.size w w' := by
 have hu28 := Try.underlying28
 have HB := am_ (Below.refl w.heap.size w)
 have H : ((some (List.replicate 24 0 : List Int)).bind fun y304 => (if 0 < (y304.length : Int) then ((some (y304.set (0 : Int).toNat 2 : List Int)).bind fun y307 => (if a0_0 = 4 then (j0 k (y307.set (0 : Int).toNat 3) a0_0 a0_1 a0_2 a0_3 a0_4 a0_5 a0_6) else (j0 k y307 a0_0 a0_1 a0_2 a0_3 a0_4 a0_5 a0_6))) else (none))) = some r := h
 clear h
 obtain ⟨y304, hy304⟩ : ∃ y_ : List Int, y_ = (List.replicate 24 0) := ⟨_, rfl⟩
 replace H : (if 0 < (y304.length : Int) then ((some (y304.set (0 : Int).toNat 2 : List Int)).bind fun y307 => (if a0_0 = 4 then (j0 k (y307.set (0 : Int).toNat 3) a0_0 a0_1 a0_2 a0_3 a0_4 a0_5 a0_6) else (j0 k y307 a0_0 a0_1 a0_2 a0_3 a0_4 a0_5 a0_6))) else (none)) = some r := by first | (rw [hy304]; with_reducible exact H) | (have H2_ := (Option.bind_some _ _).symm.trans H; rw [hy304]; with_reducible exact H2_) | (have H2_ := (Option.bind_some _ _).symm.trans H; with_reducible exact H2_) | with_reducible exact H | (rw [hy304]; exact H) | exact H
 have Ny304 := am_ hy304
 clear hy304
 by_cases c2 : 0 < (y304.length : Int)
 rotate_left
 ·rw [if_neg c2] at H
  exact absurd H (by simp)
 rw [if_pos c2] at H
 have c2b0 : decide (0 < (y304.length : Int)) = true := decide_eq_true c2
 have c2b1 : decide (0 < y304.length) = true := decide_eq_true (by omega)
 clear c2
 obtain ⟨y307, hy307⟩ : ∃ y_ : List Int, y_ = (y304.set (0 : Int).toNat 2) := ⟨_, rfl⟩
 replace H : (if a0_0 = 4 then (j0 k (y307.set (0 : Int).toNat 3) a0_0 a0_1 a0_2 a0_3 a0_4 a0_5 a0_6) else (j0 k y307 a0_0 a0_1 a0_2 a0_3 a0_4 a0_5 a0_6)) = some r := by first | (rw [hy307]; with_reducible exact H) | (have H2_ := (Option.bind_some _ _).symm.trans H; rw [hy307]; with_reducible exact H2_) | (have H2_ := (Option.bind_some _ _).symm.trans H; with_reducible exact H2_) | with_reducible exact H | (rw [hy307]; exact H) | exact H
 have Ny307 := am_ hy307
 clear hy307
 have HC4 := am_ H
 clear H
 go_enter Try.func23, Try.ntmps23
 go_upto_if 9 with (first | ((with_reducible refine gate_dst (N := 1) rfl ?_); refine box_event ?hg (N := 1) ?hd (cs := #[.int .i64 a0_0, .int .i64 a0_1, .int .i64 a0_2, .int .i64 a0_3, .int .i64 a0_4, .int .i64 a0_5, .string a0_6]) (t := 28) ?hr ?_; (case hd => rfl); (case hg => rfl); (case hr => first | (go_simp; done) | (go_simp; rfl)); intro gb303 hg w5 hbox hb; have n0_ := am_ (below_step (by repeat (first | (with_reducible first | exact HB.out | apply below_alloc | apply pw_below_drewN | apply below_drew1) | exact HB.out)) hb); have n1_ := am_ (hbox); have n2_ := am_ ((by rw [hg]; exact (below_size (by repeat (first | (with_reducible first | exact HB.out | apply below_alloc | apply pw_below_drewN | apply below_drew1) | exact HB.out))) : w.heap.size ≤ gb303)); have n3_ := am_ ((by rw [hg]; exact (below_size (by repeat (first | (with_reducible first | exact HB.out | apply below_alloc | apply pw_below_drewN | apply below_drew1) | exact HB.out))) : w.heap.size ≤ gb303)); clear HB; have HB := n0_; have BK303 := n1_; have GW303 := n2_; have GE303 := n3_; clear n0_ n1_ n2_ n3_; clear hb hbox hg) | ((with_reducible refine gate_dst (N := 4) rfl ?_); refine Kd.R_make (Kd.int .u8) _ 5 rfl (N := 4) rfl 23 _ _ rfl 24 rfl rfl Try.underlying23 (.int .u8 0) 1 info5 rfl (by decide) (by omega) 0 (ok := fun _ => True) (okp := fun _ => True) rfl (fun _ hk => hk) trivial (by omega) (by omega) (Below.refl _ _) (Nat.le_refl _) ?_; intro v305 w6 ho7 hb hg_ hnew_; clear hg_ hnew_; (first | rw [← Ny304.out] at ho7 | (simp only [Int.reduceToNat] at ho7; rw [← Ny304.out] at ho7)); have n0_ := am_ (Kd.R_lower ho7 (below_size aa_0)); have n1_ := am_ (bbelow BK303 aa_1 hb); have n2_ := am_ (below_step aa_0 hb); clear BK303; clear HB; have HO306 := n0_; have BK303 := n1_; have HB := n2_; clear n0_ n1_ n2_; clear hb ho7; have p3 : 0 ≤ (0 : Int) := (by omega); have q3 : (0 : Int) < ((y304.length : Int) : Int) := of_decide_eq_true (by first | (with_reducible assumption) | assumption); have qi3 : (0 < y304.length) = True := eq_true (by omega); obtain ⟨go3, co3, eo3, gb3, gl3, cl3, HG3⟩ := Kd.R_form HO306.out (by omega); (first | cases eo3 | (injection eo3 with ea_ en_ ec_; (first | subst ea_ | (injection ea_ with ea_; subst ea_)); subst ec_; clear en_)); have GB3 := am_ gb3; have GG3 := am_ HG3; clear gb3 gl3 HG3; obtain ⟨hx3_0, hf3_0⟩ := Kd.R_celln 0 HO306.out (0 : Int) p3 q3; (try rw [show ((0 : Int)).toNat = 0 from rfl] at hx3_0); (try simp only [Nat.reduceMul, Nat.zero_mul, Nat.zero_add, Nat.reduceAdd] at hx3_0); (try rw [show ((0 : Int)).toNat = 0 from rfl] at hf3_0); (try simp only [Nat.reduceMul, Nat.zero_mul, Nat.zero_add, Nat.reduceAdd] at hf3_0); replace p3 := eq_true p3; replace q3 := eq_true q3; obtain ⟨hy8_, hz8_⟩ := Kd.R_celln 0 HO306.out (0 : Int) (by omega) (of_decide_eq_true (by first | (with_reducible assumption) | assumption)); (try simp only [Int.reduceToNat, Int.toNat_zero, Int.toNat_ofNat, Nat.reduceMul, Nat.zero_mul, Nat.zero_add] at hy8_ hz8_); (try rw [show ((0 : Int)).toNat = 0 from rfl] at hy8_); (try rw [show ((0 : Int)).toNat = 0 from rfl] at hz8_); have HP8 := Kd.R_putg HO306.out (0 : Int) 2) | ((with_reducible refine gate_store (t := 5) (p := 6) rfl ?_); refine store_event (t := 5) (p := 6) (v := ?vo_w9) (w1 := (w6.setCell ⟨go3, (0 : Int).toNat, none⟩ (.int .u8 2))) ?hg ?ho ?hn ?hr ?_; (case ho => rfl); (case hg => rfl); (case hn => rfl); (case hr => first | (go_simp; done) | (go_simp; rfl)); intro w9 hw; have hg : w6.grownBy w9 (some go3) := (by rw [hw]; exact HP8.2); have hp_ : Kd.R (Kd.int .u8) 5 w9 w.heap.size (fun _ => True) (.slice (some ⟨go3, 0, none⟩) y304.length co3) y307 := (by rw [hw, Ny307.out]; exact HP8.1); clear HP8; have n0_ := am_ (blk_grown (g := gb303) (o := .cells #[.int .i64 a0_0, .int .i64 a0_1, .int .i64 a0_2, .int .i64 a0_3, .int .i64 a0_4, .int .i64 a0_5, .string a0_6] 28 (0, 0)) aa_1 hg (Kd.R_ne HO306.out BK303.out (by decide))); have n1_ := am_ (hp_); have n2_ := am_ ((by rw [hw]; exact below_set (HB.out) GB3.out : Below w.heap.size w w9)); clear BK303; clear HO306; clear HB; have BK303 := n0_; have HO306 := n1_; have HB := n2_; clear n0_ n1_ n2_; clear hg hw hp_; have hcz10_0 : w9.cell? ⟨gb303, 0, none⟩ = some (.int .i64 a0_0) := (bc BK303 0); have hcz10_1 : w9.cell? ⟨gb303, 1, none⟩ = some (.int .i64 a0_1) := (bc BK303 1); have hcz10_2 : w9.cell? ⟨gb303, 2, none⟩ = some (.int .i64 a0_2) := (bc BK303 2); have hcz10_3 : w9.cell? ⟨gb303, 3, none⟩ = some (.int .i64 a0_3) := (bc BK303 3); have hcz10_4 : w9.cell? ⟨gb303, 4, none⟩ = some (.int .i64 a0_4) := (bc BK303 4); have hcz10_5 : w9.cell? ⟨gb303, 5, none⟩ = some (.int .i64 a0_5) := (bc BK303 5); have hcz10_6 : w9.cell? ⟨gb303, 6, none⟩ = some (.string a0_6) := (bc BK303 6); have hfz10_0 := blk_frozen BK303.out 0; have hfz10_1 := blk_frozen BK303.out 1; have hfz10_2 := blk_frozen BK303.out 2; have hfz10_3 := blk_frozen BK303.out 3; have hfz10_4 := blk_frozen BK303.out 4; have hfz10_5 := blk_frozen BK303.out 5; have hfz10_6 := blk_frozen BK303.out 6))
 (try simp only [Act.put, e1, e2, e3])
 go_cut [] (fun wc => ∃ (kq : Nat) (x3_3 : List Int), Aside0 (j0 kq x3_3 a0_0 a0_1 a0_2 a0_3 a0_4 a0_5 a0_6 = some r) ∧ Aside0 (kq ≤ k) ∧ Aside0 (Kd.R (Kd.int .u8) 5 wc w.heap.size (fun _ => True) (.slice (some ⟨go3, 0, none⟩) y304.length co3) x3_3) ∧ Aside0 (wc.heap[gb303]? = some (.cells #[.int .i64 a0_0, .int .i64 a0_1, .int .i64 a0_2, .int .i64 a0_3, .int .i64 a0_4, .int .i64 a0_5, .string a0_6] 28 (0, 0))) ∧ Aside0 (Below w.heap.size w wc))
 case first =>
  have H := HC4.out
  clear HC4
  by_cases c11 : a0_0 = 4
  rotate_left
  ·rw [if_neg c11] at H
   have c11b0 : (a0_0 == 4) = false := beq_eq_false_iff_ne.mpr c11
   have c11b1 : (a0_0 != 4) = true := bne_iff_ne.mpr c11
   (first | rw [c11b0] | (simp only [i64_w, i32_w]; rw [c11b0]) | skip)
   have H' := am_ H
   clear H
   go_wp2
   go_meet
   case rel => exact ⟨_, (y307), H', ⟨by first | omega | exact Nat.le_refl _⟩, ⟨aa_4⟩, ⟨aa_1⟩, ⟨aa_0⟩⟩
  rw [if_pos c11] at H
  have c11b0 : (a0_0 == 4) = true := beq_iff_eq.mpr c11
  have c11b1 : (a0_0 != 4) = false := bne_eq_false_iff_eq.mpr c11
  clear c11
  (first | rw [c11b0] | (simp only [i64_w, i32_w]; rw [c11b0]) | skip)
  obtain ⟨y308, hy308⟩ : ∃ y_ : List Int, y_ = (y307.set (0 : Int).toNat 3) := ⟨_, rfl⟩
  replace H : (j0 k y308 a0_0 a0_1 a0_2 a0_3 a0_4 a0_5 a0_6) = some r := by first | (rw [hy308]; with_reducible exact H) | (have H2_ := (Option.bind_some _ _).symm.trans H; rw [hy308]; with_reducible exact H2_) | (have H2_ := (Option.bind_some _ _).symm.trans H; with_reducible exact H2_) | with_reducible exact H | (rw [hy308]; exact H) | exact H
  have Ny308 := am_ hy308
  clear hy308
  have H' := am_ H
  clear H
  have p12 : 0 ≤ (0 : Int) := (by omega)
  have q12 : (0 : Int) < ((y304.length : Int) : Int) := of_decide_eq_true (by first | (with_reducible assumption) | assumption)
  have qi12 : (0 < y304.length) = True := eq_true (by omega)
  obtain ⟨hx12_0, hf12_0⟩ := Kd.R_celln 0 HO306.out (0 : Int) p12 q12
  (try rw [show ((0 : Int)).toNat = 0 from rfl] at hx12_0)
  (try simp only [Nat.reduceMul, Nat.zero_mul, Nat.zero_add, Nat.reduceAdd] at hx12_0)
  (try rw [show ((0 : Int)).toNat = 0 from rfl] at hf12_0)
  (try simp only [Nat.reduceMul, Nat.zero_mul, Nat.zero_add, Nat.reduceAdd] at hf12_0)
  replace p12 := eq_true p12
  replace q12 := eq_true q12
  have HP13 := Kd.R_putg HO306.out (0 : Int) 3
  go_wp2_with (first | ((with_reducible refine gate_store (t := 5) (p := 11) rfl ?_); refine store_event (t := 5) (p := 11) (v := ?vo_w14) (w1 := (w9.setCell ⟨go3, (0 : Int).toNat, none⟩ (.int .u8 3))) ?hg ?ho ?hn ?hr ?_; (case ho => rfl); (case hg => rfl); (case hn => rfl); (case hr => first | (go_simp; done) | (go_simp; rfl)); intro w14 hw; have hg : w9.grownBy w14 (some go3) := (by rw [hw]; exact HP13.2); have hp_ : Kd.R (Kd.int .u8) 5 w14 w.heap.size (fun _ => True) (.slice (some ⟨go3, 0, none⟩) y304.length co3) y308 := (by rw [hw, Ny308.out]; exact HP13.1); clear HP13; have n0_ := am_ (blk_grown (g := gb303) (o := .cells #[.int .i64 a0_0, .int .i64 a0_1, .int .i64 a0_2, .int .i64 a0_3, .int .i64 a0_4, .int .i64 a0_5, .string a0_6] 28 (0, 0)) aa_1 hg (Kd.R_ne HO306.out BK303.out (by decide))); have n1_ := am_ (hp_); have n2_ := am_ ((by rw [hw]; exact below_set (HB.out) GB3.out : Below w.heap.size w w14)); clear BK303; clear HO306; clear HB; have BK303 := n0_; have HO306 := n1_; have HB := n2_; clear n0_ n1_ n2_; clear hg hw hp_))
  go_meet
  case rel => exact ⟨_, (y308), H', ⟨by first | omega | exact Nat.le_refl _⟩, ⟨aa_4⟩, ⟨aa_1⟩, ⟨aa_0⟩⟩
 case rest =>
 clear HC4
 try clear c1
 try clear p1
 try clear q1
 try clear hx1
 try clear qi1
 try clear hf1
 try clear c2
 try clear c2b0
 try clear c2b1
 try clear p2
 try clear p3
 try clear q3
 try clear hx3
 try clear qi3
 try clear hf3
 try clear c11
 try clear c11b0
 try clear c11b1
 try clear p12
 try clear q12
 try clear hx12
 try clear qi12
 try clear hf12
 try clear hcz10_0
 try clear hcz10_1
 try clear hcz10_2
 try clear hcz10_3
 try clear hcz10_4
 try clear hcz10_5
 try clear hcz10_6
 try clear hfz10_0
 try clear hfz10_1
 try clear hfz10_2
 try clear hfz10_3
 try clear hfz10_4
 try clear hfz10_5
 try clear hfz10_6
 try clear hx12_0
 try clear hx3_0
 try clear p12
 try clear p3
 try clear q12
 try clear q3
 obtain ⟨kq, x3_3, HA, HJ3, HO_3, BK303, HB⟩ := hcut
 have hl3_3 := (Kd.R_reads' HO_3.out).1
 rw [hl3_3] at HO_3
 (try simp only [hl3_3])
 (try simp only [hl3_3] at BK303)
 cases kq with
 | zero => exact absurd HA.out (by simp [j0])
 | succ kj3 =>
 have H := HA.out
 clear HA
 simp only [j0] at H
 have HC15 := am_ H
 clear H
 have hcz16_0 : wc.cell? ⟨gb303, 0, none⟩ = some (.int .i64 a0_0) := bc BK303 0
 have hcz16_1 : wc.cell? ⟨gb303, 1, none⟩ = some (.int .i64 a0_1) := bc BK303 1
 have hcz16_2 : wc.cell? ⟨gb303, 2, none⟩ = some (.int .i64 a0_2) := bc BK303 2
 have hcz16_3 : wc.cell? ⟨gb303, 3, none⟩ = some (.int .i64 a0_3) := bc BK303 3
 have hcz16_4 : wc.cell? ⟨gb303, 4, none⟩ = some (.int .i64 a0_4) := bc BK303 4
 have hcz16_5 : wc.cell? ⟨gb303, 5, none⟩ = some (.int .i64 a0_5) := bc BK303 5
 have hcz16_6 : wc.cell? ⟨gb303, 6, none⟩ = some (.string a0_6) := bc BK303 6
 have hfz16_0 := blk_frozen BK303.out 0
 have hfz16_1 := blk_frozen BK303.out 1
 have hfz16_2 := blk_frozen BK303.out 2
 have hfz16_3 := blk_frozen BK303.out 3
 have hfz16_4 := blk_frozen BK303.out 4
 have hfz16_5 := blk_frozen BK303.out 5
 have hfz16_6 := blk_frozen BK303.out 6
 go_upto_if 14 with (fail)
 go_cut [] (fun wc => ∃ (kq : Nat) (x3_14 : List Int), Aside0 (j1 kq x3_14 a0_0 a0_1 a0_2 a0_3 a0_4 a0_5 a0_6 = some r) ∧ Aside0 (kq ≤ kj3) ∧ Aside0 (Kd.R (Kd.int .u8) 5 wc w.heap.size (fun _ => True) (.slice (some ⟨go3, 0, none⟩) x3_3.length co3) x3_14) ∧ Aside0 (wc.heap[gb303]? = some (.cells #[.int .i64 a0_0, .int .i64 a0_1, .int .i64 a0_2, .int .i64 a0_3, .int .i64 a0_4, .int .i64 a0_5, .string a0_6] 28 (0, 0))) ∧ Aside0 (Below w.heap.size w wc))
 case first =>
  have H := HC15.out
  clear HC15
  by_cases c17 : a0_0 = 5
  rotate_left
  ·rw [if_neg c17] at H
   have c17b0 : (a0_0 == 5) = false := beq_eq_false_iff_ne.mpr c17
   have c17b1 : (a0_0 != 5) = true := bne_iff_ne.mpr c17
   (first | rw [c17b0] | (simp only [i64_w, i32_w]; rw [c17b0]) | skip)
   have H' := am_ H
   clear H
   go_wp2
   go_meet
   case rel => exact ⟨_, (x3_3), H', ⟨by have := HJ3.out; first | omega | exact Nat.le_refl _⟩, ⟨by (try simp only [hl3_3]); (with_reducible repeat (first | apply Kd.R_alloc | apply Kd.R_drewN | apply Kd.R_drew)); exact HO_3.out⟩, ⟨by (try simp only [hl3_3]); (with_reducible repeat (first | refine blk_drewN ?_ _ | refine blk_drew ?_ | refine blk_alloc ?_ _)); exact BK303.out⟩, ⟨aa_0⟩⟩
  rw [if_pos c17] at H
  have c17b0 : (a0_0 == 5) = true := beq_iff_eq.mpr c17
  have c17b1 : (a0_0 != 5) = false := bne_eq_false_iff_eq.mpr c17
  clear c17
  (first | rw [c17b0] | (simp only [i64_w, i32_w]; rw [c17b0]) | skip)
  by_cases c18 : 0 < (x3_3.length : Int)
  rotate_left
  ·rw [if_neg c18] at H
   exact absurd H (by simp)
  rw [if_pos c18] at H
  have c18b0 : decide (0 < (x3_3.length : Int)) = true := decide_eq_true c18
  have c18b1 : decide (0 < x3_3.length) = true := decide_eq_true (by omega)
  clear c18
  obtain ⟨y309, hy309⟩ : ∃ y_ : List Int, y_ = (x3_3.set (0 : Int).toNat 4) := ⟨_, rfl⟩
  replace H : (j1 kj3 y309 a0_0 a0_1 a0_2 a0_3 a0_4 a0_5 a0_6) = some r := by first | (rw [hy309]; with_reducible exact H) | (have H2_ := (Option.bind_some _ _).symm.trans H; rw [hy309]; with_reducible exact H2_) | (have H2_ := (Option.bind_some _ _).symm.trans H; with_reducible exact H2_) | with_reducible exact H | (rw [hy309]; exact H) | exact H
  have Ny309 := am_ hy309
  clear hy309
  have H' := am_ H
  clear H
  have p19 : 0 ≤ (0 : Int) := (by omega)
  have q19 : (0 : Int) < ((x3_3.length : Int) : Int) := of_decide_eq_true (by first | (with_reducible assumption) | assumption)
  have qi19 : (0 < x3_3.length) = True := eq_true (by omega)
  obtain ⟨hx19_0, hf19_0⟩ := Kd.R_celln 0 HO_3.out (0 : Int) p19 q19
  (try rw [show ((0 : Int)).toNat = 0 from rfl] at hx19_0)
  (try simp only [Nat.reduceMul, Nat.zero_mul, Nat.zero_add, Nat.reduceAdd] at hx19_0)
  (try rw [show ((0 : Int)).toNat = 0 from rfl] at hf19_0)
  (try simp only [Nat.reduceMul, Nat.zero_mul, Nat.zero_add, Nat.reduceAdd] at hf19_0)
  replace p19 := eq_true p19
  replace q19 := eq_true q19
  have HP20 := Kd.R_putg HO_3.out (0 : Int) 4
  go_wp2_with (first | ((with_reducible refine gate_store (t := 5) (p := 16) rfl ?_); refine store_event (t := 5) (p := 16) (v := ?vo_w21) (w1 := (wc.setCell ⟨go3, (0 : Int).toNat, none⟩ (.int .u8 4))) ?hg ?ho ?hn ?hr ?_; (case ho => rfl); (case hg => rfl); (case hn => rfl); (case hr => first | (go_simp; done) | (go_simp; rfl)); intro w21 hw; have hg : wc.grownBy w21 (some go3) := (by rw [hw]; exact HP20.2); have hp_ : Kd.R (Kd.int .u8) 5 w21 w.heap.size (fun _ => True) (.slice (some ⟨go3, 0, none⟩) x3_3.length co3) y309 := (by rw [hw, Ny309.out]; exact HP20.1); clear HP20; have n0_ := am_ (hp_); have n1_ := am_ (blk_grown (g := gb303) (o := .cells #[.int .i64 a0_0, .int .i64 a0_1, .int .i64 a0_2, .int .i64 a0_3, .int .i64 a0_4, .int .i64 a0_5, .string a0_6] 28 (0, 0)) aa_1 hg (Kd.R_ne HO_3.out BK303.out (by decide))); have n2_ := am_ ((by rw [hw]; exact below_set (HB.out) GB3.out : Below w.heap.size w w21)); clear HO_3; clear BK303; clear HB; have HO_3 := n0_; have BK303 := n1_; have HB := n2_; clear n0_ n1_ n2_; clear hg hw hp_))
  go_meet
  case rel => exact ⟨_, (y309), H', ⟨by have := HJ3.out; first | omega | exact Nat.le_refl _⟩, ⟨by (try simp only [hl3_3]); (with_reducible repeat (first | apply Kd.R_alloc | apply Kd.R_drewN | apply Kd.R_drew)); exact HO_3.out⟩, ⟨by (try simp only [hl3_3]); (with_reducible repeat (first | refine blk_drewN ?_ _ | refine blk_drew ?_ | refine blk_alloc ?_ _)); exact BK303.out⟩, ⟨aa_0⟩⟩
 case rest =>
 clear HC15
 try clear c1
 try clear p1
 try clear q1
 try clear hx1
 try clear qi1
 try clear hf1
 try clear c2
 try clear c2b0
 try clear c2b1
 try clear p2
 try clear p3
 try clear q3
 try clear hx3
 try clear qi3
 try clear hf3
 try clear c11
 try clear c11b0
 try clear c11b1
 try clear p12
 try clear q12
 try clear hx12
 try clear qi12
 try clear hf12
 try clear c17
 try clear c17b0
 try clear c17b1
 try clear c18
 try clear c18b0
 try clear c18b1
 try clear p19
 try clear q19
 try clear hx19
 try clear qi19
 try clear hf19
 try clear hcz10_0
 try clear hcz10_1
 try clear hcz10_2
 try clear hcz10_3
 try clear hcz10_4
 try clear hcz10_5
 try clear hcz10_6
 try clear hcz16_0
 try clear hcz16_1
 try clear hcz16_2
 try clear hcz16_3
 try clear hcz16_4
 try clear hcz16_5
 try clear hcz16_6
 try clear hfz10_0
 try clear hfz10_1
 try clear hfz10_2
 try clear hfz10_3
 try clear hfz10_4
 try clear hfz10_5
 try clear hfz10_6
 try clear hfz16_0
 try clear hfz16_1
 try clear hfz16_2
 try clear hfz16_3
 try clear hfz16_4
 try clear hfz16_5
 try clear hfz16_6
 try clear hx12_0
 try clear hx19_0
 try clear hx3_0
 try clear p1
 try clear p12
 try clear p19
 try clear p2
 try clear p3
 try clear q1
 try clear q12
 try clear q19
 try clear q3
 obtain ⟨kq, x3_14, HA, HJ14, HO_3, BK303, HB⟩ := hcut
 have hl3_14 := (Kd.R_reads' HO_3.out).1
 rw [hl3_14] at HO_3
 (try simp only [hl3_14])
 (try simp only [hl3_14] at BK303)
 cases kq with
 | zero => exact absurd HA.out (by simp [j1])
 | succ kj14 =>
 have H := HA.out
 clear HA
 simp only [j1] at H
 replace H := bm_ H
 obtain ⟨t310, A220, H⟩ := H
 replace H : ((gangwayref20_put.f kj14 x3_14 2 t310).bind fun t313 => ((gangwayref20_Little.f kj14 (IntKind.u64.wrap (a0_4)) 8).bind fun t314 => ((gangwayref20_put.f kj14 t313 8 t314).bind fun t317 => ((gangwayref20_Little.f kj14 (IntKind.u64.wrap (a0_5)) 8).bind fun t318 => ((gangwayref20_put.f kj14 t317 16 t318).bind fun t321 => (some t321)))))) = some r := H
 have A22 := am_ A220
 clear A220
 replace H := bm_ H
 obtain ⟨t313, A230, H⟩ := H
 replace H : ((gangwayref20_Little.f kj14 (IntKind.u64.wrap (a0_4)) 8).bind fun t314 => ((gangwayref20_put.f kj14 t313 8 t314).bind fun t317 => ((gangwayref20_Little.f kj14 (IntKind.u64.wrap (a0_5)) 8).bind fun t318 => ((gangwayref20_put.f kj14 t317 16 t318).bind fun t321 => (some t321))))) = some r := H
 have A23 := am_ A230
 clear A230
 replace H := bm_ H
 obtain ⟨t314, A240, H⟩ := H
 replace H : ((gangwayref20_put.f kj14 t313 8 t314).bind fun t317 => ((gangwayref20_Little.f kj14 (IntKind.u64.wrap (a0_5)) 8).bind fun t318 => ((gangwayref20_put.f kj14 t317 16 t318).bind fun t321 => (some t321)))) = some r := H
 have A24 := am_ A240
 clear A240
 replace H := bm_ H
 obtain ⟨t317, A250, H⟩ := H
 replace H : ((gangwayref20_Little.f kj14 (IntKind.u64.wrap (a0_5)) 8).bind fun t318 => ((gangwayref20_put.f kj14 t317 16 t318).bind fun t321 => (some t321))) = some r := H
 have A25 := am_ A250
 clear A250
 replace H := bm_ H
 obtain ⟨t318, A260, H⟩ := H
 replace H : ((gangwayref20_put.f kj14 t317 16 t318).bind fun t321 => (some t321)) = some r := H
 have A26 := am_ A260
 clear A260
 replace H := bm_ H
 obtain ⟨t321, A270, H⟩ := H
 replace H : (some t321) = some r := H
 have A27 := am_ A270
 clear A270
 obtain rfl := Option.some.inj H
 have hcz28_0 : wc.cell? ⟨gb303, 0, none⟩ = some (.int .i64 a0_0) := bc BK303 0
 have hcz28_1 : wc.cell? ⟨gb303, 1, none⟩ = some (.int .i64 a0_1) := bc BK303 1
 have hcz28_2 : wc.cell? ⟨gb303, 2, none⟩ = some (.int .i64 a0_2) := bc BK303 2
 have hcz28_3 : wc.cell? ⟨gb303, 3, none⟩ = some (.int .i64 a0_3) := bc BK303 3
 have hcz28_4 : wc.cell? ⟨gb303, 4, none⟩ = some (.int .i64 a0_4) := bc BK303 4
 have hcz28_5 : wc.cell? ⟨gb303, 5, none⟩ = some (.int .i64 a0_5) := bc BK303 5
 have hcz28_6 : wc.cell? ⟨gb303, 6, none⟩ = some (.string a0_6) := bc BK303 6
 have hfz28_0 := blk_frozen BK303.out 0
 have hfz28_1 := blk_frozen BK303.out 1
 have hfz28_2 := blk_frozen BK303.out 2
 have hfz28_3 := blk_frozen BK303.out 3
 have hfz28_4 := blk_frozen BK303.out 4
 have hfz28_5 := blk_frozen BK303.out 5
 have hfz28_6 := blk_frozen BK303.out 6
 go_wp2_with (first | ((with_reducible refine gate_callee (f := 34) rfl ?_); refine goesL_ (some 21) rfl rfl Try.func34 (by kernel_rfl) rfl #[.int .u64 (IntKind.u64.wrap (a0_3)), .int .i64 2] rfl aa_2 ?_; (with_reducible refine (gangwayref20_Little.calls kj14 (IntKind.u64.wrap (a0_3)) 2 t310 _ A22.out).mono ?_); rintro e w29 ⟨v311, rfl, ho0, hb⟩; refine ⟨_, rfl, ?_⟩; have n0_ := am_ (Kd.R_elder' aa_3 (Kd.R_base ho0) hb); have n1_ := am_ (Kd.R_lower (Kd.R_new' ho0 (Kd.R_lt aa_3)) (below_size aa_0)); have n2_ := am_ (bbelow BK303 aa_1 hb); have n3_ := am_ (below_step aa_0 hb); clear HO_3; clear BK303; clear HB; have HO_3 := n0_; have HO312 := n1_; have BK303 := n2_; have HB := n3_; clear n0_ n1_ n2_ n3_; (try clear hb); (try clear hb2); (try clear hk); (try clear hi); (try clear ho0); obtain ⟨Ao30, co30, eo30⟩ := Kd.R_slice HO312.out; subst eo30) | ((with_reducible refine gate_callee (f := 33) rfl ?_); refine goesL_ (some 22) rfl rfl Try.func33 (by kernel_rfl) rfl #[.slice (some ⟨go3, 0, none⟩) x3_14.length co3, .int .i64 2, .slice Ao30 t310.length co30] rfl aa_2 ?_; (with_reducible refine (gangwayref20_put.calls kj14 (fun k_ => some k_ = (.slice (some ⟨go3, 0, none⟩) x3_14.length co3 : Value).ownBlock) (.slice (some ⟨go3, 0, none⟩) x3_14.length co3) x3_14 2 _ _ t310 t313 w _ ?side1 ?side2 ?side3 ?side4 A23.out).mono ?_); (case side1 => exact aa_0); (case side2 => exact Kd.R_tight rfl HO_3.out); (case side3 => exact Kd.C_kept_own (HO312.out) (fun k_ hk_ hs_ => (hk_.2) hs_)); (case side4 => exact (Kd.R_reads' HO312.out).2.1); rintro e w31 ⟨rfl, hy0, hb, hkp⟩; refine ⟨_, rfl, ?_⟩; (try obtain ⟨hlew31_0, hgew31_0⟩ := Go.Proofs.YthhmnecnoojcpaaO.R_lens hy0); have n0_ := am_ (Kd.R_reok rfl hy0 (fun k_ e_ => HO_3.out.1 k_ e_)); have n1_ := am_ (bkept BK303 aa_1 hkp (fun hs_ => (fun e_ => (Kd.R_ne HO_3.out BK303.out (by decide)) e_) hs_)); have n2_ := am_ (Kd.R_mono (ok' := fun k_ => some k_ ≠ (.slice (some ⟨go3, 0, none⟩) x3_14.length co3 : Value).ownBlock) (Kd.R_keptB (HO312.out) hkp (fun k_ hk_ hs_ => (hk_.2) hs_)) (fun k_ hk_ => hk_.1.2)); have n3_ := am_ (hb); clear HO_3; clear BK303; clear HO312; clear HB; have HO_3 := n0_; have BK303 := n1_; have HO312 := n2_; have HB := n3_; clear n0_ n1_ n2_ n3_; (try clear hb); (try clear hkp); (try clear hy0); have hcz32_0 : w31.cell? ⟨gb303, 0, none⟩ = some (.int .i64 a0_0) := (bc BK303 0); have hcz32_1 : w31.cell? ⟨gb303, 1, none⟩ = some (.int .i64 a0_1) := (bc BK303 1); have hcz32_2 : w31.cell? ⟨gb303, 2, none⟩ = some (.int .i64 a0_2) := (bc BK303 2); have hcz32_3 : w31.cell? ⟨gb303, 3, none⟩ = some (.int .i64 a0_3) := (bc BK303 3); have hcz32_4 : w31.cell? ⟨gb303, 4, none⟩ = some (.int .i64 a0_4) := (bc BK303 4); have hcz32_5 : w31.cell? ⟨gb303, 5, none⟩ = some (.int .i64 a0_5) := (bc BK303 5); have hcz32_6 : w31.cell? ⟨gb303, 6, none⟩ = some (.string a0_6) := (bc BK303 6); have hfz32_0 := blk_frozen BK303.out 0; have hfz32_1 := blk_frozen BK303.out 1; have hfz32_2 := blk_frozen BK303.out 2; have hfz32_3 := blk_frozen BK303.out 3; have hfz32_4 := blk_frozen BK303.out 4; have hfz32_5 := blk_frozen BK303.out 5; have hfz32_6 := blk_frozen BK303.out 6) | ((with_reducible refine gate_callee (f := 34) rfl ?_); refine goesL_ (some 27) rfl rfl Try.func34 (by kernel_rfl) rfl #[.int .u64 (IntKind.u64.wrap (a0_4)), .int .i64 8] rfl aa_2 ?_; (with_reducible refine (gangwayref20_Little.calls kj14 (IntKind.u64.wrap (a0_4)) 8 t314 _ A24.out).mono ?_); rintro e w33 ⟨v315, rfl, ho0, hb⟩; refine ⟨_, rfl, ?_⟩; have n0_ := am_ (Kd.R_elder' aa_3 (Kd.R_base ho0) hb); have n1_ := am_ (Kd.R_elder' (by (with_reducible repeat (first | apply Kd.R_alloc | apply Kd.R_drewN | apply Kd.R_drew)); exact HO312.out) (Kd.R_base ho0) hb); have n2_ := am_ (Kd.R_lower (Kd.R_new' (Kd.R_new' ho0 (Kd.R_lt aa_3)) (Kd.R_lt (by (with_reducible repeat (first | apply Kd.R_alloc | apply Kd.R_drewN | apply Kd.R_drew)); exact HO312.out))) (below_size aa_0)); have n3_ := am_ (bbelow BK303 aa_1 hb); have n4_ := am_ (below_step aa_0 hb); clear HO_3; clear HO312; clear BK303; clear HB; have HO_3 := n0_; have HO312 := n1_; have HO316 := n2_; have BK303 := n3_; have HB := n4_; clear n0_ n1_ n2_ n3_ n4_; (try clear hb); (try clear hb2); (try clear hk); (try clear hi); (try clear ho0); obtain ⟨Ao34, co34, eo34⟩ := Kd.R_slice HO316.out; subst eo34) | ((with_reducible refine gate_callee (f := 33) rfl ?_); refine goesL_ (some 28) rfl rfl Try.func33 (by kernel_rfl) rfl #[.slice (some ⟨go3, 0, none⟩) x3_14.length co3, .int .i64 8, .slice Ao34 t314.length co34] rfl aa_2 ?_; (with_reducible refine (gangwayref20_put.calls kj14 (fun k_ => some k_ = (.slice (some ⟨go3, 0, none⟩) x3_14.length co3 : Value).ownBlock) (.slice (some ⟨go3, 0, none⟩) x3_14.length co3) t313 8 _ _ t314 t317 w _ ?side1 ?side2 ?side3 ?side4 A25.out).mono ?_); (case side1 => exact aa_0); (case side2 => exact Kd.R_tight rfl HO_3.out); (case side3 => exact Kd.C_kept_own (HO316.out) (fun k_ hk_ hs_ => (hk_.1.2) hs_)); (case side4 => exact (Kd.R_reads' HO316.out).2.1); rintro e w35 ⟨rfl, hy0, hb, hkp⟩; refine ⟨_, rfl, ?_⟩; (try obtain ⟨hlew35_0, hgew35_0⟩ := Go.Proofs.YthhmnecnoojcpaaO.R_lens hy0); have n0_ := am_ (Kd.R_reok rfl hy0 (fun k_ e_ => HO_3.out.1 k_ e_)); have n1_ := am_ (bkept BK303 aa_1 hkp (fun hs_ => (fun e_ => (Kd.R_ne HO_3.out BK303.out (by decide)) e_) hs_)); have n2_ := am_ (Kd.R_mono (ok' := fun k_ => some k_ ≠ (.slice (some ⟨go3, 0, none⟩) x3_14.length co3 : Value).ownBlock ∧ some k_ ≠ (.slice Ao34 t314.length co34 : Value).ownBlock) (Kd.R_keptB (HO312.out) hkp (fun k_ hk_ hs_ => (hk_.1) hs_)) (fun k_ hk_ => ⟨hk_.1.1, hk_.1.2⟩)); have n3_ := am_ (Kd.R_mono (ok' := fun k_ => some k_ ≠ (.slice (some ⟨go3, 0, none⟩) x3_14.length co3 : Value).ownBlock ∧ some k_ ≠ (.slice Ao30 t310.length co30 : Value).ownBlock) (Kd.R_keptB (HO316.out) hkp (fun k_ hk_ hs_ => (hk_.1.2) hs_)) (fun k_ hk_ => ⟨hk_.1.1.2, hk_.1.2⟩)); have n4_ := am_ (hb); clear HO_3; clear BK303; clear HO312; clear HO316; clear HB; have HO_3 := n0_; have BK303 := n1_; have HO312 := n2_; have HO316 := n3_; have HB := n4_; clear n0_ n1_ n2_ n3_ n4_; (try clear hb); (try clear hkp); (try clear hy0); have hcz36_0 : w35.cell? ⟨gb303, 0, none⟩ = some (.int .i64 a0_0) := (bc BK303 0); have hcz36_1 : w35.cell? ⟨gb303, 1, none⟩ = some (.int .i64 a0_1) := (bc BK303 1); have hcz36_2 : w35.cell? ⟨gb303, 2, none⟩ = some (.int .i64 a0_2) := (bc BK303 2); have hcz36_3 : w35.cell? ⟨gb303, 3, none⟩ = some (.int .i64 a0_3) := (bc BK303 3); have hcz36_4 : w35.cell? ⟨gb303, 4, none⟩ = some (.int .i64 a0_4) := (bc BK303 4); have hcz36_5 : w35.cell? ⟨gb303, 5, none⟩ = some (.int .i64 a0_5) := (bc BK303 5); have hcz36_6 : w35.cell? ⟨gb303, 6, none⟩ = some (.string a0_6) := (bc BK303 6); have hfz36_0 := blk_frozen BK303.out 0; have hfz36_1 := blk_frozen BK303.out 1; have hfz36_2 := blk_frozen BK303.out 2; have hfz36_3 := blk_frozen BK303.out 3; have hfz36_4 := blk_frozen BK303.out 4; have hfz36_5 := blk_frozen BK303.out 5; have hfz36_6 := blk_frozen BK303.out 6) | ((with_reducible refine gate_callee (f := 34) rfl ?_); refine goesL_ (some 33) rfl rfl Try.func34 (by kernel_rfl) rfl #[.int .u64 (IntKind.u64.wrap (a0_5)), .int .i64 8] rfl aa_2 ?_; (with_reducible refine (gangwayref20_Little.calls kj14 (IntKind.u64.wrap (a0_5)) 8 t318 _ A26.out).mono ?_); rintro e w37 ⟨v319, rfl, ho0, hb⟩; refine ⟨_, rfl, ?_⟩; have n0_ := am_ (Kd.R_elder' aa_3 (Kd.R_base ho0) hb); have n1_ := am_ (Kd.R_elder' (by (with_reducible repeat (first | apply Kd.R_alloc | apply Kd.R_drewN | apply Kd.R_drew)); exact HO312.out) (Kd.R_base ho0) hb); have n2_ := am_ (Kd.R_elder' (by (with_reducible repeat (first | apply Kd.R_alloc | apply Kd.R_drewN | apply Kd.R_drew)); exact HO316.out) (Kd.R_base ho0) hb); have n3_ := am_ (Kd.R_lower (Kd.R_new' (Kd.R_new' (Kd.R_new' ho0 (Kd.R_lt aa_3)) (Kd.R_lt (by (with_reducible repeat (first | apply Kd.R_alloc | apply Kd.R_drewN | apply Kd.R_drew)); exact HO312.out))) (Kd.R_lt (by (with_reducible repeat (first | apply Kd.R_alloc | apply Kd.R_drewN | apply Kd.R_drew)); exact HO316.out))) (below_size aa_0)); have n4_ := am_ (bbelow BK303 aa_1 hb); have n5_ := am_ (below_step aa_0 hb); clear HO_3; clear HO312; clear HO316; clear BK303; clear HB; have HO_3 := n0_; have HO312 := n1_; have HO316 := n2_; have HO320 := n3_; have BK303 := n4_; have HB := n5_; clear n0_ n1_ n2_ n3_ n4_ n5_; (try clear hb); (try clear hb2); (try clear hk); (try clear hi); (try clear ho0); obtain ⟨Ao38, co38, eo38⟩ := Kd.R_slice HO320.out; subst eo38) | ((with_reducible refine gate_callee (f := 33) rfl ?_); refine goesL_ (some 34) rfl rfl Try.func33 (by kernel_rfl) rfl #[.slice (some ⟨go3, 0, none⟩) x3_14.length co3, .int .i64 16, .slice Ao38 t318.length co38] rfl aa_2 ?_; (with_reducible refine (gangwayref20_put.calls kj14 (fun k_ => some k_ = (.slice (some ⟨go3, 0, none⟩) x3_14.length co3 : Value).ownBlock) (.slice (some ⟨go3, 0, none⟩) x3_14.length co3) t317 16 _ _ t318 t321 w _ ?side1 ?side2 ?side3 ?side4 A27.out).mono ?_); (case side1 => exact aa_0); (case side2 => exact Kd.R_tight rfl HO_3.out); (case side3 => exact Kd.C_kept_own (HO320.out) (fun k_ hk_ hs_ => (hk_.1.1.2) hs_)); (case side4 => exact (Kd.R_reads' HO320.out).2.1); rintro e w39 ⟨rfl, hy0, hb, hkp⟩; refine ⟨_, rfl, ?_⟩; (try obtain ⟨hlew39_0, hgew39_0⟩ := Go.Proofs.YthhmnecnoojcpaaO.R_lens hy0); have n0_ := am_ (Kd.R_reok rfl hy0 (fun k_ e_ => HO_3.out.1 k_ e_)); have n1_ := am_ (bkept BK303 aa_1 hkp (fun hs_ => (fun e_ => (Kd.R_ne HO_3.out BK303.out (by decide)) e_) hs_)); have n2_ := am_ (Kd.R_mono (ok' := fun k_ => some k_ ≠ (.slice (some ⟨go3, 0, none⟩) x3_14.length co3 : Value).ownBlock ∧ some k_ ≠ (.slice Ao34 t314.length co34 : Value).ownBlock ∧ some k_ ≠ (.slice Ao38 t318.length co38 : Value).ownBlock) (Kd.R_keptB (HO312.out) hkp (fun k_ hk_ hs_ => (hk_.1.1) hs_)) (fun k_ hk_ => ⟨hk_.1.1.1, hk_.1.1.2, hk_.1.2⟩)); have n3_ := am_ (Kd.R_mono (ok' := fun k_ => some k_ ≠ (.slice (some ⟨go3, 0, none⟩) x3_14.length co3 : Value).ownBlock ∧ some k_ ≠ (.slice Ao30 t310.length co30 : Value).ownBlock ∧ some k_ ≠ (.slice Ao38 t318.length co38 : Value).ownBlock) (Kd.R_keptB (HO316.out) hkp (fun k_ hk_ hs_ => (hk_.1.1) hs_)) (fun k_ hk_ => ⟨hk_.1.1.1, hk_.1.1.2, hk_.1.2⟩)); have n4_ := am_ (Kd.R_mono (ok' := fun k_ => some k_ ≠ (.slice (some ⟨go3, 0, none⟩) x3_14.length co3 : Value).ownBlock ∧ some k_ ≠ (.slice Ao30 t310.length co30 : Value).ownBlock ∧ some k_ ≠ (.slice Ao34 t314.length co34 : Value).ownBlock) (Kd.R_keptB (HO320.out) hkp (fun k_ hk_ hs_ => (hk_.1.1.2) hs_)) (fun k_ hk_ => ⟨hk_.1.1.1.2, hk_.1.1.2, hk_.1.2⟩)); have n5_ := am_ (hb); clear HO_3; clear BK303; clear HO312; clear HO316; clear HO320; clear HB; have HO_3 := n0_; have BK303 := n1_; have HO312 := n2_; have HO316 := n3_; have HO320 := n4_; have HB := n5_; clear n0_ n1_ n2_ n3_ n4_ n5_; (try clear hb); (try clear hkp); (try clear hy0)))
 go_ret
 exact ⟨_, by first | rfl | (simp [errW_none, errW_some] <;> rfl) | (simp [*, errW_none, errW_some] <;> rfl), by (with_reducible repeat (first | apply Kd.R_alloc | apply Kd.R_drewN | apply Kd.R_drew)); exact Kd.R_mono HO_3.out (fun _ hk => trivial), by repeat (first | (with_reducible first | exact HB.out | apply below_alloc | apply pw_below_drewN | apply below_drew1 | refine below_set ?_ GE303.out) | exact HB.out)⟩
end Go.Proofs.Ythhmnecnoojcpaa.PAll
