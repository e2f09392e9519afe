/- Printed by a copy of the printer that was turned for this claim: functions as plain Lean functions, with proofs that their calls come to these; or words that such proofs use. -/
import Derived.Test.YtdoaininjfbemaaPAllx0
import Derived.Test.YtdoaininjfbemaaPAllx2
import Derived.Test.YtdoaininjfbemaaPAllx3
import Derived.Test.YtdoaininjfbemaaPAllx4
namespace Go.Proofs.Ytdoaininjfbemaa.PAll
open Go.RowKit Go.Proofs.YtdoaininjfbemaaW.PrintWords Go.Proofs.YtdoaininjfbemaaW.PrintLast Go.Proofs.YtdoaininjfbemaaW.PrintMore
attribute [local go_sem] max2_int min2_int max_two min_two max_three min_three max_four min_four   -- for this text's walks alone
set_option linter.unusedVariables false
set_option linter.unusedSimpArgs false

/-! ### iov_Pieces: function 7 -/
abbrev iov_Pieces.t : Bool := true
abbrev iov_Pieces.f_ : Bool := false
theorem iov_Pieces.bc {w : World} {g : Nat} {cs : Array Value} {t : TypeId} (h : Aside0 (w.heap[g]? = some (.cells cs t (0, 0)))) (i : Nat) {v : Value} (e : cs[i]? = some v := by rfl) : w.cell? ⟨g, i, none⟩ = some v := (blk_cell h.out i).trans e
theorem iov_Pieces.bkept {W0 W W2 : World} {g : Nat} {o : Obj} {S : Nat → Prop} (_b : Aside0 (W0.heap[g]? = some o)) (h : W.heap[g]? = some o) (hk : Kept W W2 S) (hn : ¬ S g) : W2.heap[g]? = some o := blk_kept h hk hn
theorem iov_Pieces.bbelow {W0 w w1 : World} {g : Nat} {o : Obj} (_b : Aside0 (W0.heap[g]? = some o)) (h : w.heap[g]? = some o) (hb : Below w.heap.size w w1) : w1.heap[g]? = some o := blk_below h hb
theorem iov_Pieces.e1 {α : Type _} (xs : List α) (i : Nat) (a : α) : xs.toArray.setIfInBounds i a = (xs.set i a).toArray := by simp
theorem iov_Pieces.e2 {α : Type _} (x a : α) (xs : List α) : (x :: xs).set 0 a = a :: xs := rfl
theorem iov_Pieces.e3 {α : Type _} (x a : α) (xs : List α) (n : Nat) : (x :: xs).set (n + 1) a = x :: xs.set n a := rfl
mutual
def iov_Pieces.j0 : Nat → Int → Int → Bool → List Int → Int → Option ((List (S50)) × Int × List Int × Int)
 | 0, _, _, _, _, _ => none
 | k + 1, x1, x2, x17, x1000, x1001 => if x17 = true then (some (([] : List (S50)), 28, x1000, x1001)) else ((mem_Memory_Has.f x1000 x1001 x1 (wrap64 (8 * x2))).bind fun bt149 => (if bt149.1 = true then (iov_Pieces.l0 k x1 ([] : List (S50)) x2 0 bt149.2.1 bt149.2.2) else (some (([] : List (S50)), 21, bt149.2.1, bt149.2.2))))
def iov_Pieces.l0 : Nat → Int → List (S50) → Int → Int → List Int → Int → Option ((List (S50)) × Int × List Int × Int)
 | 0, _, _, _, _, _, _ => none
 | k + 1, x1, x8, x32, x33, x1000, x1001 => if x33 < x32 then ((iov_Pieces_1.f k (wrap64 (x1 + (wrap64 (8 * x33)))) x1000 x1001).bind fun bt154 => ((iov_Pieces_1.f k (wrap64 ((wrap64 (x1 + (wrap64 (8 * x33)))) + 4)) bt154.2.1 bt154.2.2).bind fun bt159 => (if x8.length < 8796093022208 then (iov_Pieces.l0 k x1 (x8 ++ [(⟨bt154.1, bt159.1⟩ : S50)]) x32 (wrap64 (x33 + 1)) bt159.2.1 bt159.2.2) else (none)))) else ((iov_all.f x1000 x1001 x8).bind fun bt167 => (if bt167.1 = 0 then ((iov_Total.f k x8).bind fun bt172 => (if bt172.1 > 1048576 then (some (([] : List (S50)), 28, bt167.2.1, bt167.2.2)) else (some (x8, 0, bt167.2.1, bt167.2.2)))) else (some (([] : List (S50)), bt167.1, bt167.2.1, bt167.2.2))))
end
def iov_Pieces.f (k : Nat) (l0_0 : List Int) (s0_1 : Int) (a1 : Int) (a2 : Int) : Option ((List (S50)) × Int × List Int × Int) := if a2 < 0 then (iov_Pieces.j0 k a1 a2 true l0_0 s0_1) else (iov_Pieces.j0 k a1 a2 (decide (a2 > 64)) l0_0 s0_1)
theorem iov_Pieces.mono_l : ∀ k, (∀ y0 y1 y2 y3 y4, LeO (iov_Pieces.j0 k y0 y1 y2 y3 y4) (iov_Pieces.j0 (k + 1) y0 y1 y2 y3 y4)) ∧ (∀ y0 y1 y2 y3 y4 y5, LeO (iov_Pieces.l0 k y0 y1 y2 y3 y4 y5) (iov_Pieces.l0 (k + 1) y0 y1 y2 y3 y4 y5))
 | 0 => ⟨fun _ _ _ _ _ r h => by simp [iov_Pieces.j0] at h, fun _ _ _ _ _ _ r h => by simp [iov_Pieces.l0] at h⟩
 | k + 1 => by
  obtain ⟨ih0, ih1⟩ := iov_Pieces.mono_l k
  refine ⟨?_, ?_⟩
  ·intro y0 y1 y2 y3 y4
   unfold iov_Pieces.j0
   repeat' first
   | (with_reducible apply ih0)
   | (with_reducible apply ih1)
   | (with_reducible exact iov_Pieces_1.mono _ _ _ _)
   | (with_reducible exact iov_Total.mono _ _)
   | (with_reducible exact LeO.refl _)
   | (with_reducible exact LeO.none _)
   | (with_reducible refine LeO.ite ?_ ?_)
   | (with_reducible refine LeO.bind ?_ (fun _ => ?_))
   | apply ih0
   | apply ih1
   | exact iov_Pieces_1.mono _ _ _ _
   | exact iov_Total.mono _ _
   | exact LeO.none _
   | refine LeO.ite ?_ ?_
   | refine LeO.bind ?_ (fun _ => ?_)
  ·intro y0 y1 y2 y3 y4 y5
   unfold iov_Pieces.l0
   repeat' first
   | (with_reducible apply ih0)
   | (with_reducible apply ih1)
   | (with_reducible exact iov_Pieces_1.mono _ _ _ _)
   | (with_reducible exact iov_Total.mono _ _)
   | (with_reducible exact LeO.refl _)
   | (with_reducible exact LeO.none _)
   | (with_reducible refine LeO.ite ?_ ?_)
   | (with_reducible refine LeO.bind ?_ (fun _ => ?_))
   | apply ih0
   | apply ih1
   | exact iov_Pieces_1.mono _ _ _ _
   | exact iov_Total.mono _ _
   | exact LeO.none _
   | refine LeO.ite ?_ ?_
   | refine LeO.bind ?_ (fun _ => ?_)
theorem iov_Pieces.mono : ∀ a0 a1 a2 a3 k, LeO (iov_Pieces.f k a0 a1 a2 a3) (iov_Pieces.f (k + 1) a0 a1 a2 a3) := by
 intro a0 a1 a2 a3 k
 obtain ⟨ih0, ih1⟩ := iov_Pieces.mono_l k
 unfold iov_Pieces.f
 repeat' first
   | (with_reducible apply ih0)
   | (with_reducible apply ih1)
   | (with_reducible exact iov_Pieces_1.mono _ _ _ _)
   | (with_reducible exact iov_Total.mono _ _)
   | (with_reducible exact LeO.refl _)
   | (with_reducible exact LeO.none _)
   | (with_reducible refine LeO.ite ?_ ?_)
   | (with_reducible refine LeO.bind ?_ (fun _ => ?_))
   | apply ih0
   | apply ih1
   | exact iov_Pieces_1.mono _ _ _ _
   | exact iov_Total.mono _ _
   | exact LeO.none _
   | refine LeO.ite ?_ ?_
   | refine LeO.bind ?_ (fun _ => ?_)
theorem iov_Pieces.aa_0 {p : Prop} (h : p := by first | exact HK.out.1 | exact (show Kept w _ (fun k_ => (P0_0_ k_) ∨ k_ = g) from by repeat (first | (with_reducible first | exact HK.out | apply Kept.alloc | apply Kept.drewN | apply Kept.drew | refine Kept.setCell ?_ (.inl (.inr rfl)) _ | refine Kept.setCell ?_ (.inr GW148.out) _) | exact HK.out)).1) : p := h
theorem iov_Pieces.aa_1 {p : Prop} (h : p := by repeat (first | (with_reducible first | exact HK.out | apply Kept.alloc | apply Kept.drewN | apply Kept.drew | refine Kept.setCell ?_ (.inl (.inr rfl)) _ | refine Kept.setCell ?_ (.inr GW148.out) _) | exact HK.out)) : p := h
theorem iov_Pieces.aa_2 {p : Prop} (h : p := by (with_reducible repeat (first | refine blk_drewN ?_ _ | refine blk_drew ?_ | refine blk_alloc ?_ _)); exact BK148.out) : p := h
theorem iov_Pieces.aa_3 {p : Prop} (h : p := by (try simp only [List.map_toArray, List.map_cons, List.map_nil]); first | done | rfl | (simp only [List.length_drop, List.length_take]; rfl)) : p := h
theorem iov_Pieces.aa_4 {p : Prop} (h : p := by repeat (first | (with_reducible first | exact HB.out | apply below_alloc | apply pw_below_drewN | apply below_drew1 | refine below_set ?_ (IsS72.ge HI0.out) | refine below_set ?_ GE148.out) | exact HB.out)) : p := h
theorem iov_Pieces.aa_5 {p : Prop} (h : p := by repeat (first | (with_reducible first | exact HI0.out | apply IsS72.alloc | apply IsS72.drewN | apply IsS72.drew | apply IsS72.set_0 | apply IsS72.set_1 | refine IsS72.far ?_ NB0_148.out _) | exact HI0.out)) : p := h
theorem iov_Pieces.aa_6 {p : Prop} (h : p := by (with_reducible repeat (first | apply Kd.R_alloc | apply Kd.R_drewN | apply Kd.R_drew)); exact HO0_0.out) : p := h
theorem iov_Pieces.aa_7 {p : Prop} (h : p := by repeat (first | exact (Kd.R_reads' HO_8.out).2.2 | (with_reducible refine Kd.C_alloc ?_ _) | (with_reducible refine Kd.C_drewN ?_ _) | (with_reducible refine Kd.C_drew ?_))) : p := h
theorem iov_Pieces.am_ {p : Prop} (h : p) : Aside0 p := Aside0.mk h
theorem iov_Pieces.bm_ {α β : Type _} {o : Option α} {f : α → Option β} {b : β} (h : o.bind f = some b) : ∃ a, o = some a ∧ f a = some b := Option.bind_eq_some_iff.mp h
set_option maxHeartbeats 8000000 in
set_option maxRecDepth 100000 in
theorem iov_Pieces.calls (k : Nat) (g : Nat) (P0_0_ : Nat → Prop) (u9000_ : Value) (l0_0 : List Int) (s0_1 : Int) (a1 : Int) (a2 : Int) (r1 : List (S50)) (r2 : Int) (r3 : List Int) (r4 : Int) (w0 w : World) (hI : IsS72 w0 w g u9000_ s0_1) (hB : Below w0.heap.size w0 w) (ho0_0 : Kd.R (Kd.int .u8) 5 w w0.heap.size P0_0_ u9000_ l0_0) (h : iov_Pieces.f k l0_0 s0_1 a1 a2 = some (r1, r2, r3, r4)) :
  Calls Try.prog 7 #[.pointer (some ⟨g, 0, none⟩), .int .i64 a1, .int .i64 a2] w fun e w' => ∃ v0_ v2_ : Value, e = .returned (.tuple #[v0_, .int .i64 r2]) ∧ Kd.R k50 50 w' w0.heap.size (fun k_ => (P0_0_ k_ ∨ w.heap.size ≤ k_)) v0_ r1 ∧ Kd.R (Kd.int .u8) 5 w' w0.heap.size (fun k_ => (P0_0_ k_ ∨ w.heap.size ≤ k_)) v2_ r3 ∧ IsS72 w0 w' g v2_ r4 ∧ Below w0.heap.size w0 w' ∧ Kept w w' (fun k_ => (P0_0_ k_) ∨ k_ = g) := by
 have hu50 := Try.underlying50
 have HO0_0 := am_ (show Kd.R (Kd.int .u8) 5 w w0.heap.size (fun k_ => (P0_0_ k_ ∨ w.heap.size ≤ k_)) u9000_ l0_0 from Kd.R_mono ho0_0 (fun k_ hk => (.inl hk)))
 have HI0 := am_ hI
 have HL := am_ hB.size
 clear hI
 have HK := am_ (Kept.refl w (fun k_ => (P0_0_ k_) ∨ k_ = g))
 have HW0 := am_ hB.size
 have HB := am_ hB
 clear hB
 have H : (if a2 < 0 then (j0 k a1 a2 true l0_0 s0_1) else (j0 k a1 a2 (decide (a2 > 64)) l0_0 s0_1)) = some (r1, r2, r3, r4) := h
 clear h
 have HC4 := am_ H
 clear H
 go_enter Try.func7, Try.ntmps7
 go_upto_region 3 with (first | ((with_reducible refine gate_dst (N := 3) rfl ?_); refine box_event ?hg (N := 3) ?hd (cs := #[.pointer (some ⟨g, 0, none⟩)]) (t := 28) ?hr ?_; (case hd => rfl); (case hg => rfl); (case hr => first | (go_simp; done) | (go_simp; rfl)); intro gb148 hg w5 hbox hb; have n0_ := am_ (Kd.R_below (by (with_reducible repeat (first | apply Kd.R_alloc | apply Kd.R_drewN | apply Kd.R_drew)); exact HO0_0.out) hb); have n1_ := am_ (IsS72.below (by repeat (first | (with_reducible first | exact HI0.out | apply IsS72.alloc | apply IsS72.drewN | apply IsS72.drew | apply IsS72.set_0 | apply IsS72.set_1) | exact HI0.out)) hb); have n2_ := am_ (Kept.below (S := (fun k_ => (P0_0_ k_) ∨ k_ = g)) (by repeat (first | (with_reducible first | exact HK.out | apply Kept.alloc | apply Kept.drewN | apply Kept.drew | refine Kept.setCell ?_ (.inl (.inr rfl)) _) | exact HK.out)) hb); have n3_ := am_ (below_step (by repeat (first | (with_reducible first | exact HB.out | apply below_alloc | apply pw_below_drewN | apply below_drew1 | refine below_set ?_ (IsS72.ge HI0.out)) | exact HB.out)) hb); have n4_ := am_ (hbox); have n5_ := am_ ((by rw [hg]; exact (by first | exact HK.out.1 | exact (show Kept w _ (fun k_ => (P0_0_ k_) ∨ k_ = g) from by repeat (first | (with_reducible first | exact HK.out | apply Kept.alloc | apply Kept.drewN | apply Kept.drew | refine Kept.setCell ?_ (.inl (.inr rfl)) _) | exact HK.out)).1) : w.heap.size ≤ gb148)); have n6_ := am_ ((by rw [hg]; exact (below_size (by repeat (first | (with_reducible first | exact HB.out | apply below_alloc | apply pw_below_drewN | apply below_drew1 | refine below_set ?_ (IsS72.ge HI0.out)) | exact HB.out))) : w0.heap.size ≤ gb148)); have n7_ := am_ ((by rw [hg]; exact Nat.ne_of_lt (IsS72.lt (show IsS72 w0 _ g u9000_ s0_1 from by repeat (first | (with_reducible first | exact HI0.out | apply IsS72.alloc | apply IsS72.drewN | apply IsS72.drew | apply IsS72.set_0 | apply IsS72.set_1) | exact HI0.out))) : g ≠ gb148)); have n8_ := am_ ((by rw [hg]; exact Nat.ne_of_gt (IsS72.lt (show IsS72 w0 _ g u9000_ s0_1 from by repeat (first | (with_reducible first | exact HI0.out | apply IsS72.alloc | apply IsS72.drewN | apply IsS72.drew | apply IsS72.set_0 | apply IsS72.set_1) | exact HI0.out))) : gb148 ≠ g)); clear HO0_0; clear HI0; clear HK; clear HB; have HO0_0 := n0_; have HI0 := n1_; have HK := n2_; have HB := n3_; have BK148 := n4_; have GW148 := n5_; have GE148 := n6_; have NB0_148 := n7_; have NB148_0 := n8_; clear n0_ n1_ n2_ n3_ n4_ n5_ n6_ n7_ n8_; clear hb hbox hg; have hnb6 := NB148_0.out; have hnc6 := NB0_148.out; have hcz7_0 : w5.cell? ⟨gb148, 0, none⟩ = some (.pointer (some ⟨g, 0, none⟩)) := (bc BK148 0); have hfz7_0 := blk_frozen BK148.out 0))
 (try simp only [Act.put, e1, e2, e3])
 go_cut [17] (fun v17 wc => ∃ (kq : Nat) (x17_3 : Bool), v17 = .bool x17_3 ∧ Aside0 (j0 kq a1 a2 x17_3 l0_0 s0_1 = some (r1, r2, r3, r4)) ∧ Aside0 (kq ≤ k) ∧ Aside0 (Kd.R (Kd.int .u8) 5 wc w0.heap.size (fun k_ => (P0_0_ k_ ∨ w.heap.size ≤ k_)) u9000_ l0_0) ∧ Aside0 (wc.heap[gb148]? = some (.cells #[.pointer (some ⟨g, 0, none⟩)] 28 (0, 0))) ∧ Aside0 (IsS72 w0 wc g u9000_ s0_1) ∧ Aside0 (Kept w wc (fun k_ => (P0_0_ k_) ∨ k_ = g)) ∧ Aside0 (Below w0.heap.size w0 wc))
 case first =>
  have H := HC4.out
  clear HC4
  by_cases c8 : a2 < 0
  ·rw [if_pos c8] at H
   have c8b0 : decide (a2 < 0) = true := decide_eq_true c8
   clear c8
   (first | rw [c8b0] | (simp only [i64_w, i32_w]; rw [c8b0]) | skip)
   have H' := am_ H
   clear H
   go_wp2
   go_meet
   case rel => exact ⟨_, (true), (by first | rfl | (simp; done) | (simp [*]; done)), H', ⟨by first | omega | exact Nat.le_refl _⟩, ⟨aa_6⟩, ⟨aa_2⟩, ⟨aa_5⟩, ⟨aa_1⟩, ⟨aa_4⟩⟩
  ·rw [if_neg c8] at H
   have c8b0 : decide (a2 < 0) = false := decide_eq_false c8
   clear c8
   (first | rw [c8b0] | (simp only [i64_w, i32_w]; rw [c8b0]) | skip)
   have H' := am_ H
   clear H
   go_wp2
   go_meet
   case rel => exact ⟨_, (decide (a2 > 64)), (by first | rfl | (simp; done) | (simp [*]; done)), H', ⟨by first | omega | exact Nat.le_refl _⟩, ⟨aa_6⟩, ⟨aa_2⟩, ⟨aa_5⟩, ⟨aa_1⟩, ⟨aa_4⟩⟩
 case rest =>
  clear HC4
  try clear p2
  try clear c6
  try clear c7
  try clear c8
  try clear c8b0
  try clear hcz7_0
  try clear hfz7_0
  obtain ⟨kq, x17_3, rfl, HA, HJ3, HO_1000, BK148, HI0, HK, HB⟩ := hcut
  cases kq with
  | zero => exact absurd HA.out (by simp [j0])
  | succ kj3 =>
   have H := HA.out
   clear HA
   simp only [j0] at H
   by_cases c9 : x17_3 = true
   ·subst c9
    have H1 : (some (([] : List (S50)), 28, l0_0, s0_1)) = some (r1, r2, r3, r4) := by rw [if_pos rfl] at H; exact H
    clear H
    have H := H1
    clear H1
    simp only [Option.some.injEq, Prod.mk.injEq] at H
    obtain ⟨rfl, rfl, rfl, rfl⟩ := H
    go_wp2
    go_ret2
    exact ⟨_, _, by first | rfl | (simp [errW_none, errW_some] <;> rfl) | (simp [*, errW_none, errW_some] <;> rfl), by first | exact Kd.R_nil _ _ _ _ _ | exact Kd.N_nil _ _ _ _ _ | exact Kd.V_nil _ _ _ _ _ | exact Kd.Q_nil _ _ _ _ _ | exact Kd.S_nil _ _ _ _ _, by (with_reducible repeat (first | apply Kd.R_alloc | apply Kd.R_drewN | apply Kd.R_drew)); exact HO_1000.out, aa_5, aa_4, by repeat (first | (with_reducible first | exact HK.out | apply Kept.alloc | apply Kept.drewN | apply Kept.drew | refine Kept.setCell ?_ (.inl (.inr rfl)) _ | refine Kept.setCell ?_ (.inr GW148.out) _) | exact HK.out)⟩
   ·replace c9 := Bool.eq_false_iff.mpr c9
    subst c9
    have H1 : ((mem_Memory_Has.f l0_0 s0_1 a1 (wrap64 (8 * a2))).bind fun bt149 => (if bt149.1 = true then (iov_Pieces.l0 kj3 a1 ([] : List (S50)) a2 0 bt149.2.1 bt149.2.2) else (some (([] : List (S50)), 21, bt149.2.1, bt149.2.2)))) = some (r1, r2, r3, r4) := by rw [if_neg (show ¬ (false = true) by decide)] at H; exact H
    clear H
    have H := H1
    clear H1
    replace H := bm_ H
    obtain ⟨⟨t149, t150, t153⟩, A100, H⟩ := H
    replace H : (if t149 = true then (iov_Pieces.l0 kj3 a1 ([] : List (S50)) a2 0 t150 t153) else (some (([] : List (S50)), 21, t150, t153))) = some (r1, r2, r3, r4) := H
    have A10 := am_ A100
    clear A100
    by_cases c11 : t149 = true
    ·subst c11
     have H1 : (iov_Pieces.l0 kj3 a1 ([] : List (S50)) a2 0 t150 t153) = some (r1, r2, r3, r4) := by rw [if_pos rfl] at H; exact H
     clear H
     have H := H1
     clear H1
     have H' := am_ H
     clear H
     have hnb12 := NB148_0.out
     have hnc12 := NB0_148.out
     have hcz13_0 : wc.cell? ⟨gb148, 0, none⟩ = some (.pointer (some ⟨g, 0, none⟩)) := bc BK148 0
     have hfz13_0 := blk_frozen BK148.out 0
     go_wp2_with (first | ((with_reducible refine gate_callee (f := 25) rfl ?_); refine goesL_ (some 29) rfl rfl Try.func25 (by kernel_rfl) rfl #[.pointer (some ⟨g, 0, none⟩), .int .i64 a1, .int .i64 (wrap64 (8 * a2))] rfl aa_3 ?_; (with_reducible refine (mem_Memory_Has.calls g (fun k_ => some k_ = (u9000_ : Value).ownBlock) u9000_ l0_0 s0_1 a1 (wrap64 (8 * a2)) true t150 t153 w0 _ ?side1 ?side2 ?side3 A10.out).mono ?_); (case side1 => exact aa_5); (case side2 => exact aa_4); (case side3 => exact Kd.R_tight rfl HO_1000.out); rintro e w14 ⟨v151, rfl, ho0, hi, hb, hkp⟩; refine ⟨_, rfl, ?_⟩; have n0_ := am_ (bkept BK148 aa_2 hkp (fun hs_ => Or.elim hs_ (fun hs_ => (fun e_ => (Kd.R_ne HO_1000.out BK148.out (by decide)) e_) hs_) (fun e_ => NB148_0.out e_))); have n1_ := am_ (hi); have n2_ := am_ (Kd.R_mono (ok' := fun k_ => (P0_0_ k_ ∨ w.heap.size ≤ k_)) ho0 (fun k_ hk_ => Or.elim hk_ (fun hs_ => (HO_1000.out.1 k_ (hs_).symm)) (fun hn_ => (.inr (Nat.le_trans aa_0 hn_))))); have n3_ := am_ (Kept.then_ (S := (fun k_ => (P0_0_ k_) ∨ k_ = g)) aa_1 hkp (fun k_ hs_ => Or.elim hs_ (fun hs_ => (fun e_ => Or.imp_left Or.inl ((HO_1000.out.1 k_ e_.symm))) hs_) (fun e_ => .inl (.inr e_)))); have n4_ := am_ (hb); clear BK148; clear HI0; clear HK; clear HB; clear HO_1000; have BK148 := n0_; have HI0 := n1_; have HO152 := n2_; have HK := n3_; have HB := n4_; clear n0_ n1_ n2_ n3_ n4_; (try clear hb); (try clear hkp); (try clear ho0)))
     go_loopg [8, 33] kj3 (fun kq v8 v33 w' => ∃ (x8_2 : List (S50)) (x33_2 : Int) (x1000_2 : List Int) (x1001_2 : Int) (u1000 : Value), v33 = .int .i64 x33_2 ∧ Aside0 (iov_Pieces.l0 kq a1 x8_2 a2 x33_2 x1000_2 x1001_2 = some (r1, r2, r3, r4)) ∧ Aside0 (kq ≤ kj3) ∧ Aside0 (Kd.R k50 50 w' w0.heap.size (fun k_ => (P0_0_ k_ ∨ w.heap.size ≤ k_)) v8 x8_2) ∧ Aside0 (Kd.R (Kd.int .u8) 5 w' w0.heap.size (fun k_ => (P0_0_ k_ ∨ w.heap.size ≤ k_)) u1000 x1000_2) ∧ Aside0 (w'.heap[gb148]? = some (.cells #[.pointer (some ⟨g, 0, none⟩)] 28 (0, 0))) ∧ Aside0 (IsS72 w0 w' g u1000 x1001_2) ∧ Aside0 (Kept w w' (fun k_ => (P0_0_ k_) ∨ k_ = g)) ∧ Aside0 (Below w0.heap.size w0 w'))
     case atStart => exact ⟨(([] : List (S50))), (0), (t150), (t153), (v151), (by first | rfl | (simp; done) | (simp [*]; done)), H', ⟨Nat.le_refl _⟩, ⟨by first | exact Kd.R_nil _ _ _ _ _ | exact Kd.N_nil _ _ _ _ _ | exact Kd.V_nil _ _ _ _ _ | exact Kd.Q_nil _ _ _ _ _ | exact Kd.S_nil _ _ _ _ _⟩, ⟨by (with_reducible repeat (first | apply Kd.R_alloc | apply Kd.R_drewN | apply Kd.R_drew)); exact HO152.out⟩, ⟨aa_2⟩, ⟨aa_5⟩, ⟨aa_1⟩, ⟨aa_4⟩⟩
     case round =>
      clear H'
      try clear c1
      try clear c2
      try clear p2
      try clear c6
      try clear p6
      try clear c7
      try clear c8
      try clear c8b0
      try clear c9
      try clear c11
      try clear c12
      try clear hcz13_0
      try clear hcz7_0
      try clear hfz13_0
      try clear hfz7_0
      try clear p2
      obtain ⟨x8_2, x33_2, x1000_2, x1001_2, u1000, rfl, HA, HK2, HO_8, HO_1000, BK148, HI0, HK, HB⟩ := hrel
      cases gk with
      | zero => exact absurd HA.out (by simp [iov_Pieces.l0])
      | succ k2 =>
       have H := HA.out
       clear HA
       simp only [iov_Pieces.l0] at H
       by_cases c15 : x33_2 < a2
       ·rw [if_pos c15] at H
        have c15b0 : decide (x33_2 < a2) = true := decide_eq_true c15
        clear c15
        replace H := bm_ H
        obtain ⟨⟨t154, t155, t158⟩, A160, H⟩ := H
        replace H : ((iov_Pieces_1.f k2 (wrap64 ((wrap64 (a1 + (wrap64 (8 * x33_2)))) + 4)) t155 t158).bind fun bt159 => (if x8_2.length < 8796093022208 then (iov_Pieces.l0 k2 a1 (x8_2 ++ [(⟨t154, bt159.1⟩ : S50)]) a2 (wrap64 (x33_2 + 1)) bt159.2.1 bt159.2.2) else (none))) = some (r1, r2, r3, r4) := H
        have A16 := am_ A160
        clear A160
        replace H := bm_ H
        obtain ⟨⟨t159, t160, t163⟩, A170, H⟩ := H
        replace H : (if x8_2.length < 8796093022208 then (iov_Pieces.l0 k2 a1 (x8_2 ++ [(⟨t154, t159⟩ : S50)]) a2 (wrap64 (x33_2 + 1)) t160 t163) else (none)) = some (r1, r2, r3, r4) := H
        have A17 := am_ A170
        clear A170
        by_cases c18 : x8_2.length < 8796093022208
        ·rw [if_pos c18] at H
         have LMc18 := am_ c18
         clear c18
         obtain ⟨y164, hy164⟩ : ∃ y_ : List (S50), y_ = (x8_2 ++ [(⟨t154, t159⟩ : S50)]) := ⟨_, rfl⟩
         replace H : (iov_Pieces.l0 k2 a1 y164 a2 (wrap64 (x33_2 + 1)) t160 t163) = some (r1, r2, r3, r4) := by first | (rw [hy164]; with_reducible exact H) | (have H2_ := (Option.bind_some _ _).symm.trans H; rw [hy164]; with_reducible exact H2_) | (have H2_ := (Option.bind_some _ _).symm.trans H; with_reducible exact H2_) | with_reducible exact H | (rw [hy164]; exact H) | exact H
         have Ny164 := am_ hy164
         clear hy164
         have H' := am_ H
         clear H
         go_wp2_with (first | ((with_reducible refine Go.Proofs.YtdoaininjfbemaaO.gate_value (F := .tmp 37) rfl ?_); refine Go.Proofs.YtdoaininjfbemaaO.goesM_ (some 42) rfl rfl Try.func26 (by kernel_rfl) rfl #[.int .i64 (wrap64 (a1 + (wrap64 (8 * x33_2)))), .pointer (some ⟨gb148, 0, none⟩)] rfl rfl (by (try simp only [List.map_toArray, List.map_cons, List.map_nil]); first | done | rfl | (simp; done) | rfl | (simp only [List.length_drop, List.length_take]; rfl)) ?_; (with_reducible refine (iov_Pieces_1.calls k2 (wrap64 (a1 + (wrap64 (8 * x33_2)))) gb148 g (fun k_ => some k_ = (u1000 : Value).ownBlock) u1000 x1000_2 x1001_2 t154 t155 t158 w0 _ ?side1 ?side2 ?side3 ?side4 A16.out).mono ?_); (case side1 => exact aa_5); (case side2 => exact aa_4); (case side3 => exact Kd.R_tight rfl HO_1000.out); (case side4 => exact aa_2); rintro e w19 ⟨v156, rfl, ho0, hi, hb, hkp⟩; refine ⟨_, rfl, ?_⟩; have n0_ := am_ (Kd.R_mono (ok' := fun k_ => (P0_0_ k_ ∨ w.heap.size ≤ k_)) (Kd.R_keptB ((IsS72.apart HI0.out (Kd.R_apart' HO_8.out (Kd.R_typed HO_1000.out) (by decide)) (by decide))) hkp (fun k_ hk_ hs_ => Or.elim hs_ (fun hs_ => (hk_.1.2) hs_) (fun e_ => (hk_.2) e_))) (fun k_ hk_ => hk_.1.1.1)); have n1_ := am_ (bkept BK148 aa_2 hkp (fun hs_ => Or.elim hs_ (fun hs_ => (fun e_ => (Kd.R_ne HO_1000.out BK148.out (by decide)) e_) hs_) (fun e_ => NB148_0.out e_))); have n2_ := am_ (hi); have n3_ := am_ (Kd.R_mono (ok' := fun k_ => (P0_0_ k_ ∨ w.heap.size ≤ k_)) ho0 (fun k_ hk_ => Or.elim hk_ (fun hs_ => (HO_1000.out.1 k_ (hs_).symm)) (fun hn_ => (.inr (Nat.le_trans aa_0 hn_))))); have n4_ := am_ (Kept.then_ (S := (fun k_ => (P0_0_ k_) ∨ k_ = g)) aa_1 hkp (fun k_ hs_ => Or.elim hs_ (fun hs_ => (fun e_ => Or.imp_left Or.inl ((HO_1000.out.1 k_ e_.symm))) hs_) (fun e_ => .inl (.inr e_)))); have n5_ := am_ (hb); clear HO_8; clear BK148; clear HI0; clear HK; clear HB; clear HO_1000; have HO_8 := n0_; have BK148 := n1_; have HI0 := n2_; have HO157 := n3_; have HK := n4_; have HB := n5_; clear n0_ n1_ n2_ n3_ n4_ n5_; (try clear hb); (try clear hkp); (try clear ho0)) | ((with_reducible refine Go.Proofs.YtdoaininjfbemaaO.gate_value (F := .tmp 43) rfl ?_); refine Go.Proofs.YtdoaininjfbemaaO.goesM_ (some 49) rfl rfl Try.func26 (by kernel_rfl) rfl #[.int .i64 (wrap64 ((wrap64 (a1 + (wrap64 (8 * x33_2)))) + 4)), .pointer (some ⟨gb148, 0, none⟩)] rfl rfl (by (try simp only [List.map_toArray, List.map_cons, List.map_nil]); first | done | rfl | (simp; done) | rfl | (simp only [List.length_drop, List.length_take]; rfl)) ?_; (with_reducible refine (iov_Pieces_1.calls k2 (wrap64 ((wrap64 (a1 + (wrap64 (8 * x33_2)))) + 4)) gb148 g (fun k_ => some k_ = (v156 : Value).ownBlock) v156 t155 t158 t159 t160 t163 w0 _ ?side1 ?side2 ?side3 ?side4 A17.out).mono ?_); (case side1 => exact aa_5); (case side2 => exact aa_4); (case side3 => exact Kd.R_tight rfl HO157.out); (case side4 => exact aa_2); rintro e w20 ⟨v161, rfl, ho0, hi, hb, hkp⟩; refine ⟨_, rfl, ?_⟩; have n0_ := am_ (Kd.R_mono (ok' := fun k_ => (P0_0_ k_ ∨ w.heap.size ≤ k_)) (Kd.R_keptB ((IsS72.apart HI0.out (Kd.R_apart' HO_8.out (Kd.R_typed HO157.out) (by decide)) (by decide))) hkp (fun k_ hk_ hs_ => Or.elim hs_ (fun hs_ => (hk_.1.2) hs_) (fun e_ => (hk_.2) e_))) (fun k_ hk_ => hk_.1.1.1)); have n1_ := am_ (bkept BK148 aa_2 hkp (fun hs_ => Or.elim hs_ (fun hs_ => (fun e_ => (Kd.R_ne HO157.out BK148.out (by decide)) e_) hs_) (fun e_ => NB148_0.out e_))); have n2_ := am_ (hi); have n3_ := am_ (Kd.R_mono (ok' := fun k_ => (P0_0_ k_ ∨ w.heap.size ≤ k_)) ho0 (fun k_ hk_ => Or.elim hk_ (fun hs_ => (HO157.out.1 k_ (hs_).symm)) (fun hn_ => (.inr (Nat.le_trans aa_0 hn_))))); have n4_ := am_ (Kept.then_ (S := (fun k_ => (P0_0_ k_) ∨ k_ = g)) aa_1 hkp (fun k_ hs_ => Or.elim hs_ (fun hs_ => (fun e_ => Or.imp_left Or.inl ((HO157.out.1 k_ e_.symm))) hs_) (fun e_ => .inl (.inr e_)))); have n5_ := am_ (hb); clear HO_8; clear BK148; clear HI0; clear HK; clear HB; clear HO157; have HO_8 := n0_; have BK148 := n1_; have HI0 := n2_; have HO162 := n3_; have HK := n4_; have HB := n5_; clear n0_ n1_ n2_ n3_ n4_ n5_; (try clear hb); (try clear hkp); (try clear ho0)) | ((with_reducible refine gate_builtin (b := .append) (xs := #[.tmp 36, .tmp 51]) rfl ?_); at_builtin; refine Kd.R_append k50 (w0 := w0) w0.heap.size rfl (.tmp 36) (.tmp 51) 24 50 (.agg #[(.int .i64 0), (.int .i64 0)]) 16 rfl Try.underlying24 info50 rfl (by decide) (by omega) u8 x8_2 (⟨t154, t159⟩ : S50) [.int .i64 t154, .int .i64 t159] (fun k_ => (P0_0_ k_ ∨ w.heap.size ≤ k_)) (fun _ => False) rfl rfl ?aP (fun _ hk => hk.elim) ?aF ?aO ?aB ?aS ?aL ?_; (case aP => exact k50_mkM _ _ _ (⟨t154, t159⟩ : S50)); (case aB => exact aa_4); (case aF => exact (fun k_ hk => (.inr (Nat.le_trans aa_0 hk)))); (case aO => exact (by (with_reducible repeat (first | apply Kd.R_alloc | apply Kd.R_drewN | apply Kd.R_drew)); exact HO_8.out)); (case aS => exact (below_size aa_4)); (case aL => have := LMc18.out; omega); intro v165 w21 ho hb hg hat; rw [← Ny164.out] at ho; have n0_ := am_ (blk_grown (g := gb148) (o := .cells #[.pointer (some ⟨g, 0, none⟩)] 28 (0, 0)) aa_2 hg (Kd.R_ne HO_8.out BK148.out (by decide))); have n1_ := am_ (IsS72.grown aa_5 hg (IsS72.own_ne HI0.out HO_8.out (by decide))); have n2_ := am_ (Kd.R_over' (by (with_reducible repeat (first | apply Kd.R_alloc | apply Kd.R_drewN | apply Kd.R_drew)); exact HO162.out) (Kd.R_typed (by (with_reducible repeat (first | apply Kd.R_alloc | apply Kd.R_drewN | apply Kd.R_drew)); exact HO_8.out)) (by decide) hg); have n3_ := am_ (hb); have n4_ := am_ (Kept.of_grown (S := (fun k_ => (P0_0_ k_) ∨ k_ = g)) hg aa_1 (fun k_ e_ => Or.imp_left Or.inl ((HO_8.out.1 k_ e_)))); have n5_ := am_ (ho); clear BK148; clear HI0; clear HO162; clear HB; clear HK; clear HO_8; have BK148 := n0_; have HI0 := n1_; have HO162 := n2_; have HB := n3_; have HK := n4_; have HO166 := n5_; clear n0_ n1_ n2_ n3_ n4_ n5_; clear ho hb hg hat))
         go_roundg k2
         case measure => have := HJ3.out; have := HK2.out; omega
         case rel => exact ⟨(y164), (wrap64 (x33_2 + 1)), (t160), (t163), (v161), (by first | rfl | (simp; done) | (simp [*]; done)), H', ⟨by have := HJ3.out; have := HK2.out; omega⟩, ⟨by (with_reducible repeat (first | apply Kd.R_alloc | apply Kd.R_drewN | apply Kd.R_drew)); exact HO166.out⟩, ⟨by (with_reducible repeat (first | apply Kd.R_alloc | apply Kd.R_drewN | apply Kd.R_drew)); exact HO162.out⟩, ⟨aa_2⟩, ⟨aa_5⟩, ⟨aa_1⟩, ⟨aa_4⟩⟩
        ·rw [if_neg c18] at H
         exact absurd H (by simp)
       ·rw [if_neg c15] at H
        have c15b0 : decide (x33_2 < a2) = false := decide_eq_false c15
        clear c15
        replace H := bm_ H
        obtain ⟨⟨t167, t168, t171⟩, A220, H⟩ := H
        replace H : (if t167 = 0 then ((iov_Total.f k2 x8_2).bind fun bt172 => (if bt172.1 > 1048576 then (some (([] : List (S50)), 28, t168, t171)) else (some (x8_2, 0, t168, t171)))) else (some (([] : List (S50)), t167, t168, t171))) = some (r1, r2, r3, r4) := H
        have A22 := am_ A220
        clear A220
        by_cases c23 : t167 = 0
        ·rw [if_pos c23] at H
         have c23b0 : (t167 == 0) = true := beq_iff_eq.mpr c23
         have c23b1 : (t167 != 0) = false := bne_eq_false_iff_eq.mpr c23
         clear c23
         replace H := bm_ H
         obtain ⟨⟨t172, t173⟩, A240, H⟩ := H
         replace H : (if t172 > 1048576 then (some (([] : List (S50)), 28, t168, t171)) else (some (x8_2, 0, t168, t171))) = some (r1, r2, r3, r4) := H
         have A24 := am_ A240
         clear A240
         by_cases c25 : t172 > 1048576
         ·rw [if_pos c25] at H
          have c25b0 : decide (1048576 < t172) = true := decide_eq_true c25
          clear c25
          simp only [Option.some.injEq, Prod.mk.injEq] at H
          obtain ⟨rfl, rfl, rfl, rfl⟩ := H
          have hnb26 := NB148_0.out
          have hnc26 := NB0_148.out
          have hcz27_0 : wr.cell? ⟨gb148, 0, none⟩ = some (.pointer (some ⟨g, 0, none⟩)) := bc BK148 0
          have hfz27_0 := blk_frozen BK148.out 0
          obtain ⟨Ao28, co28, eo28⟩ := Kd.R_slice HO_8.out
          subst eo28
          go_wp2_with (first | ((with_reducible refine gate_callee (f := 28) rfl ?_); refine goesL_ (some 56) rfl rfl Try.func28 (by kernel_rfl) rfl #[.pointer (some ⟨g, 0, none⟩), .slice Ao28 x8_2.length co28] rfl aa_3 ?_; (with_reducible refine (iov_all.calls g (fun k_ => some k_ = (u1000 : Value).ownBlock) u1000 x1000_2 x1001_2 _ _ x8_2 t167 t168 t171 w0 _ ?side1 ?side2 ?side3 ?side4 ?side5 A22.out).mono ?_); (case side1 => exact aa_5); (case side2 => exact aa_4); (case side3 => exact Kd.R_tight rfl HO_1000.out); (case side4 => exact Kd.C_kept_own ((IsS72.apart HI0.out (Kd.R_apart' HO_8.out (Kd.R_typed HO_1000.out) (by decide)) (by decide))) (fun k_ hk_ hs_ => Or.elim hs_ (fun hs_ => (hk_.1.2) hs_) (fun e_ => (hk_.2) e_))); (case side5 => exact (Kd.R_reads' HO_8.out).2.1); rintro e w29 ⟨v169, rfl, ho0, hi, hb, hkp⟩; refine ⟨_, rfl, ?_⟩; have n0_ := am_ (Kd.R_mono (ok' := fun k_ => (P0_0_ k_ ∨ w.heap.size ≤ k_)) (Kd.R_keptB ((IsS72.apart HI0.out (Kd.R_apart' HO_8.out (Kd.R_typed HO_1000.out) (by decide)) (by decide))) hkp (fun k_ hk_ hs_ => Or.elim hs_ (fun hs_ => (hk_.1.2) hs_) (fun e_ => (hk_.2) e_))) (fun k_ hk_ => hk_.1.1.1)); have n1_ := am_ (bkept BK148 aa_2 hkp (fun hs_ => Or.elim hs_ (fun hs_ => (fun e_ => (Kd.R_ne HO_1000.out BK148.out (by decide)) e_) hs_) (fun e_ => NB148_0.out e_))); have n2_ := am_ (hi); have n3_ := am_ (Kd.R_mono (ok' := fun k_ => (P0_0_ k_ ∨ w.heap.size ≤ k_)) ho0 (fun k_ hk_ => Or.elim hk_ (fun hs_ => (HO_1000.out.1 k_ (hs_).symm)) (fun hn_ => (.inr (Nat.le_trans aa_0 hn_))))); have n4_ := am_ (Kept.then_ (S := (fun k_ => (P0_0_ k_) ∨ k_ = g)) aa_1 hkp (fun k_ hs_ => Or.elim hs_ (fun hs_ => (fun e_ => Or.imp_left Or.inl ((HO_1000.out.1 k_ e_.symm))) hs_) (fun e_ => .inl (.inr e_)))); have n5_ := am_ (hb); clear HO_8; clear BK148; clear HI0; clear HK; clear HB; clear HO_1000; have HO_8 := n0_; have BK148 := n1_; have HI0 := n2_; have HO170 := n3_; have HK := n4_; have HB := n5_; clear n0_ n1_ n2_ n3_ n4_ n5_; (try clear hb); (try clear hkp); (try clear ho0)) | ((with_reducible refine gate_callee (f := 19) rfl ?_); refine goesL_ (some 62) rfl rfl Try.func19 (by kernel_rfl) rfl #[.slice Ao28 x8_2.length co28] rfl aa_3 ?_; (with_reducible refine (iov_Total.calls k2 _ _ x8_2 t172 t173 _ ?side1 ?side2 A24.out).mono ?_); (case side1 => exact aa_7); (case side2 => exact (Kd.R_reads' HO_8.out).2.1); rintro e w30 ⟨rfl, hb⟩; refine ⟨_, rfl, ?_⟩; have n0_ := am_ (Kd.R_below (by (with_reducible repeat (first | apply Kd.R_alloc | apply Kd.R_drewN | apply Kd.R_drew)); exact HO_8.out) hb); have n1_ := am_ (Kd.R_below (by (with_reducible repeat (first | apply Kd.R_alloc | apply Kd.R_drewN | apply Kd.R_drew)); exact HO170.out) hb); have n2_ := am_ (bbelow BK148 aa_2 hb); have n3_ := am_ (IsS72.below aa_5 hb); have n4_ := am_ (Kept.below (S := (fun k_ => (P0_0_ k_) ∨ k_ = g)) aa_1 hb); have n5_ := am_ (below_step aa_4 hb); clear HO_8; clear HO170; clear BK148; clear HI0; clear HK; clear HB; have HO_8 := n0_; have HO170 := n1_; have BK148 := n2_; have HI0 := n3_; have HK := n4_; have HB := n5_; clear n0_ n1_ n2_ n3_ n4_ n5_; (try clear hb); (try clear hb2); (try clear hk); (try clear hi)))
          go_ret2
          exact ⟨_, _, by first | rfl | (simp [errW_none, errW_some] <;> rfl) | (simp [*, errW_none, errW_some] <;> rfl), by first | exact Kd.R_nil _ _ _ _ _ | exact Kd.N_nil _ _ _ _ _ | exact Kd.V_nil _ _ _ _ _ | exact Kd.Q_nil _ _ _ _ _ | exact Kd.S_nil _ _ _ _ _, by (with_reducible repeat (first | apply Kd.R_alloc | apply Kd.R_drewN | apply Kd.R_drew)); exact HO170.out, aa_5, aa_4, by repeat (first | (with_reducible first | exact HK.out | apply Kept.alloc | apply Kept.drewN | apply Kept.drew | refine Kept.setCell ?_ (.inl (.inr rfl)) _ | refine Kept.setCell ?_ (.inr GW148.out) _) | exact HK.out)⟩
         ·rw [if_neg c25] at H
          have c25b0 : decide (1048576 < t172) = false := decide_eq_false c25
          clear c25
          simp only [Option.some.injEq, Prod.mk.injEq] at H
          obtain ⟨rfl, rfl, rfl, rfl⟩ := H
          have hnb31 := NB148_0.out
          have hnc31 := NB0_148.out
          have hcz32_0 : wr.cell? ⟨gb148, 0, none⟩ = some (.pointer (some ⟨g, 0, none⟩)) := bc BK148 0
          have hfz32_0 := blk_frozen BK148.out 0
          obtain ⟨Ao33, co33, eo33⟩ := Kd.R_slice HO_8.out
          subst eo33
          go_wp2_with (first | ((with_reducible refine gate_callee (f := 28) rfl ?_); refine goesL_ (some 56) rfl rfl Try.func28 (by kernel_rfl) rfl #[.pointer (some ⟨g, 0, none⟩), .slice Ao33 x8_2.length co33] rfl aa_3 ?_; (with_reducible refine (iov_all.calls g (fun k_ => some k_ = (u1000 : Value).ownBlock) u1000 x1000_2 x1001_2 _ _ x8_2 t167 t168 t171 w0 _ ?side1 ?side2 ?side3 ?side4 ?side5 A22.out).mono ?_); (case side1 => exact aa_5); (case side2 => exact aa_4); (case side3 => exact Kd.R_tight rfl HO_1000.out); (case side4 => exact Kd.C_kept_own ((IsS72.apart HI0.out (Kd.R_apart' HO_8.out (Kd.R_typed HO_1000.out) (by decide)) (by decide))) (fun k_ hk_ hs_ => Or.elim hs_ (fun hs_ => (hk_.1.2) hs_) (fun e_ => (hk_.2) e_))); (case side5 => exact (Kd.R_reads' HO_8.out).2.1); rintro e w34 ⟨v169, rfl, ho0, hi, hb, hkp⟩; refine ⟨_, rfl, ?_⟩; have n0_ := am_ (Kd.R_mono (ok' := fun k_ => (P0_0_ k_ ∨ w.heap.size ≤ k_)) (Kd.R_keptB ((IsS72.apart HI0.out (Kd.R_apart' HO_8.out (Kd.R_typed HO_1000.out) (by decide)) (by decide))) hkp (fun k_ hk_ hs_ => Or.elim hs_ (fun hs_ => (hk_.1.2) hs_) (fun e_ => (hk_.2) e_))) (fun k_ hk_ => hk_.1.1.1)); have n1_ := am_ (bkept BK148 aa_2 hkp (fun hs_ => Or.elim hs_ (fun hs_ => (fun e_ => (Kd.R_ne HO_1000.out BK148.out (by decide)) e_) hs_) (fun e_ => NB148_0.out e_))); have n2_ := am_ (hi); have n3_ := am_ (Kd.R_mono (ok' := fun k_ => (P0_0_ k_ ∨ w.heap.size ≤ k_)) ho0 (fun k_ hk_ => Or.elim hk_ (fun hs_ => (HO_1000.out.1 k_ (hs_).symm)) (fun hn_ => (.inr (Nat.le_trans aa_0 hn_))))); have n4_ := am_ (Kept.then_ (S := (fun k_ => (P0_0_ k_) ∨ k_ = g)) aa_1 hkp (fun k_ hs_ => Or.elim hs_ (fun hs_ => (fun e_ => Or.imp_left Or.inl ((HO_1000.out.1 k_ e_.symm))) hs_) (fun e_ => .inl (.inr e_)))); have n5_ := am_ (hb); clear HO_8; clear BK148; clear HI0; clear HK; clear HB; clear HO_1000; have HO_8 := n0_; have BK148 := n1_; have HI0 := n2_; have HO170 := n3_; have HK := n4_; have HB := n5_; clear n0_ n1_ n2_ n3_ n4_ n5_; (try clear hb); (try clear hkp); (try clear ho0)) | ((with_reducible refine gate_callee (f := 19) rfl ?_); refine goesL_ (some 62) rfl rfl Try.func19 (by kernel_rfl) rfl #[.slice Ao33 x8_2.length co33] rfl aa_3 ?_; (with_reducible refine (iov_Total.calls k2 _ _ x8_2 t172 t173 _ ?side1 ?side2 A24.out).mono ?_); (case side1 => exact aa_7); (case side2 => exact (Kd.R_reads' HO_8.out).2.1); rintro e w35 ⟨rfl, hb⟩; refine ⟨_, rfl, ?_⟩; have n0_ := am_ (Kd.R_below (by (with_reducible repeat (first | apply Kd.R_alloc | apply Kd.R_drewN | apply Kd.R_drew)); exact HO_8.out) hb); have n1_ := am_ (Kd.R_below (by (with_reducible repeat (first | apply Kd.R_alloc | apply Kd.R_drewN | apply Kd.R_drew)); exact HO170.out) hb); have n2_ := am_ (bbelow BK148 aa_2 hb); have n3_ := am_ (IsS72.below aa_5 hb); have n4_ := am_ (Kept.below (S := (fun k_ => (P0_0_ k_) ∨ k_ = g)) aa_1 hb); have n5_ := am_ (below_step aa_4 hb); clear HO_8; clear HO170; clear BK148; clear HI0; clear HK; clear HB; have HO_8 := n0_; have HO170 := n1_; have BK148 := n2_; have HI0 := n3_; have HK := n4_; have HB := n5_; clear n0_ n1_ n2_ n3_ n4_ n5_; (try clear hb); (try clear hb2); (try clear hk); (try clear hi)))
          go_ret2
          exact ⟨_, _, by first | rfl | (simp [errW_none, errW_some] <;> rfl) | (simp [*, errW_none, errW_some] <;> rfl), by (with_reducible repeat (first | apply Kd.R_alloc | apply Kd.R_drewN | apply Kd.R_drew)); exact HO_8.out, by (with_reducible repeat (first | apply Kd.R_alloc | apply Kd.R_drewN | apply Kd.R_drew)); exact HO170.out, aa_5, aa_4, by repeat (first | (with_reducible first | exact HK.out | apply Kept.alloc | apply Kept.drewN | apply Kept.drew | refine Kept.setCell ?_ (.inl (.inr rfl)) _ | refine Kept.setCell ?_ (.inr GW148.out) _) | exact HK.out)⟩
        ·rw [if_neg c23] at H
         have c23b0 : (t167 == 0) = false := beq_eq_false_iff_ne.mpr c23
         have c23b1 : (t167 != 0) = true := bne_iff_ne.mpr c23
         simp only [Option.some.injEq, Prod.mk.injEq] at H
         obtain ⟨rfl, rfl, rfl, rfl⟩ := H
         have hnb36 := NB148_0.out
         have hnc36 := NB0_148.out
         have hcz37_0 : wr.cell? ⟨gb148, 0, none⟩ = some (.pointer (some ⟨g, 0, none⟩)) := bc BK148 0
         have hfz37_0 := blk_frozen BK148.out 0
         obtain ⟨Ao38, co38, eo38⟩ := Kd.R_slice HO_8.out
         subst eo38
         go_wp2_with (first | ((with_reducible refine gate_callee (f := 28) rfl ?_); refine goesL_ (some 56) rfl rfl Try.func28 (by kernel_rfl) rfl #[.pointer (some ⟨g, 0, none⟩), .slice Ao38 x8_2.length co38] rfl aa_3 ?_; (with_reducible refine (iov_all.calls g (fun k_ => some k_ = (u1000 : Value).ownBlock) u1000 x1000_2 x1001_2 _ _ x8_2 t167 t168 t171 w0 _ ?side1 ?side2 ?side3 ?side4 ?side5 A22.out).mono ?_); (case side1 => exact aa_5); (case side2 => exact aa_4); (case side3 => exact Kd.R_tight rfl HO_1000.out); (case side4 => exact Kd.C_kept_own ((IsS72.apart HI0.out (Kd.R_apart' HO_8.out (Kd.R_typed HO_1000.out) (by decide)) (by decide))) (fun k_ hk_ hs_ => Or.elim hs_ (fun hs_ => (hk_.1.2) hs_) (fun e_ => (hk_.2) e_))); (case side5 => exact (Kd.R_reads' HO_8.out).2.1); rintro e w39 ⟨v169, rfl, ho0, hi, hb, hkp⟩; refine ⟨_, rfl, ?_⟩; have n0_ := am_ (Kd.R_mono (ok' := fun k_ => (P0_0_ k_ ∨ w.heap.size ≤ k_)) (Kd.R_keptB ((IsS72.apart HI0.out (Kd.R_apart' HO_8.out (Kd.R_typed HO_1000.out) (by decide)) (by decide))) hkp (fun k_ hk_ hs_ => Or.elim hs_ (fun hs_ => (hk_.1.2) hs_) (fun e_ => (hk_.2) e_))) (fun k_ hk_ => hk_.1.1.1)); have n1_ := am_ (bkept BK148 aa_2 hkp (fun hs_ => Or.elim hs_ (fun hs_ => (fun e_ => (Kd.R_ne HO_1000.out BK148.out (by decide)) e_) hs_) (fun e_ => NB148_0.out e_))); have n2_ := am_ (hi); have n3_ := am_ (Kd.R_mono (ok' := fun k_ => (P0_0_ k_ ∨ w.heap.size ≤ k_)) ho0 (fun k_ hk_ => Or.elim hk_ (fun hs_ => (HO_1000.out.1 k_ (hs_).symm)) (fun hn_ => (.inr (Nat.le_trans aa_0 hn_))))); have n4_ := am_ (Kept.then_ (S := (fun k_ => (P0_0_ k_) ∨ k_ = g)) aa_1 hkp (fun k_ hs_ => Or.elim hs_ (fun hs_ => (fun e_ => Or.imp_left Or.inl ((HO_1000.out.1 k_ e_.symm))) hs_) (fun e_ => .inl (.inr e_)))); have n5_ := am_ (hb); clear HO_8; clear BK148; clear HI0; clear HK; clear HB; clear HO_1000; have HO_8 := n0_; have BK148 := n1_; have HI0 := n2_; have HO170 := n3_; have HK := n4_; have HB := n5_; clear n0_ n1_ n2_ n3_ n4_ n5_; (try clear hb); (try clear hkp); (try clear ho0)))
         go_ret2
         exact ⟨_, _, by first | rfl | (simp [errW_none, errW_some] <;> rfl) | (simp [*, errW_none, errW_some] <;> rfl), by first | exact Kd.R_nil _ _ _ _ _ | exact Kd.N_nil _ _ _ _ _ | exact Kd.V_nil _ _ _ _ _ | exact Kd.Q_nil _ _ _ _ _ | exact Kd.S_nil _ _ _ _ _, by (with_reducible repeat (first | apply Kd.R_alloc | apply Kd.R_drewN | apply Kd.R_drew)); exact HO170.out, aa_5, aa_4, by repeat (first | (with_reducible first | exact HK.out | apply Kept.alloc | apply Kept.drewN | apply Kept.drew | refine Kept.setCell ?_ (.inl (.inr rfl)) _ | refine Kept.setCell ?_ (.inr GW148.out) _) | exact HK.out)⟩
    ·replace c11 := Bool.eq_false_iff.mpr c11
     subst c11
     have H1 : (some (([] : List (S50)), 21, t150, t153)) = some (r1, r2, r3, r4) := by rw [if_neg (show ¬ (false = true) by decide)] at H; exact H
     clear H
     have H := H1
     clear H1
     simp only [Option.some.injEq, Prod.mk.injEq] at H
     obtain ⟨rfl, rfl, rfl, rfl⟩ := H
     have hnb40 := NB148_0.out
     have hnc40 := NB0_148.out
     have hcz41_0 : wc.cell? ⟨gb148, 0, none⟩ = some (.pointer (some ⟨g, 0, none⟩)) := bc BK148 0
     have hfz41_0 := blk_frozen BK148.out 0
     go_wp2_with (first | ((with_reducible refine gate_callee (f := 25) rfl ?_); refine goesL_ (some 29) rfl rfl Try.func25 (by kernel_rfl) rfl #[.pointer (some ⟨g, 0, none⟩), .int .i64 a1, .int .i64 (wrap64 (8 * a2))] rfl aa_3 ?_; (with_reducible refine (mem_Memory_Has.calls g (fun k_ => some k_ = (u9000_ : Value).ownBlock) u9000_ l0_0 s0_1 a1 (wrap64 (8 * a2)) false t150 t153 w0 _ ?side1 ?side2 ?side3 A10.out).mono ?_); (case side1 => exact aa_5); (case side2 => exact aa_4); (case side3 => exact Kd.R_tight rfl HO_1000.out); rintro e w42 ⟨v151, rfl, ho0, hi, hb, hkp⟩; refine ⟨_, rfl, ?_⟩; have n0_ := am_ (bkept BK148 aa_2 hkp (fun hs_ => Or.elim hs_ (fun hs_ => (fun e_ => (Kd.R_ne HO_1000.out BK148.out (by decide)) e_) hs_) (fun e_ => NB148_0.out e_))); have n1_ := am_ (hi); have n2_ := am_ (Kd.R_mono (ok' := fun k_ => (P0_0_ k_ ∨ w.heap.size ≤ k_)) ho0 (fun k_ hk_ => Or.elim hk_ (fun hs_ => (HO_1000.out.1 k_ (hs_).symm)) (fun hn_ => (.inr (Nat.le_trans aa_0 hn_))))); have n3_ := am_ (Kept.then_ (S := (fun k_ => (P0_0_ k_) ∨ k_ = g)) aa_1 hkp (fun k_ hs_ => Or.elim hs_ (fun hs_ => (fun e_ => Or.imp_left Or.inl ((HO_1000.out.1 k_ e_.symm))) hs_) (fun e_ => .inl (.inr e_)))); have n4_ := am_ (hb); clear BK148; clear HI0; clear HK; clear HB; clear HO_1000; have BK148 := n0_; have HI0 := n1_; have HO152 := n2_; have HK := n3_; have HB := n4_; clear n0_ n1_ n2_ n3_ n4_; (try clear hb); (try clear hkp); (try clear ho0)))
     go_ret2
     exact ⟨_, _, by first | rfl | (simp [errW_none, errW_some] <;> rfl) | (simp [*, errW_none, errW_some] <;> rfl), by first | exact Kd.R_nil _ _ _ _ _ | exact Kd.N_nil _ _ _ _ _ | exact Kd.V_nil _ _ _ _ _ | exact Kd.Q_nil _ _ _ _ _ | exact Kd.S_nil _ _ _ _ _, by (with_reducible repeat (first | apply Kd.R_alloc | apply Kd.R_drewN | apply Kd.R_drew)); exact HO152.out, aa_5, aa_4, by repeat (first | (with_reducible first | exact HK.out | apply Kept.alloc | apply Kept.drewN | apply Kept.drew | refine Kept.setCell ?_ (.inl (.inr rfl)) _ | refine Kept.setCell ?_ (.inr GW148.out) _) | exact HK.out)⟩

/-! ### iov_Pieces: function 7 (by hand) -/
def iov_Pieces_nil.f : Option Int := some 100
set_option maxHeartbeats 8000000 in
set_option maxRecDepth 100000 in
theorem iov_Pieces_nil.calls (r1 : Int) (w : World) (h : iov_Pieces_nil.f = some r1) :
    Calls Try.prog 7 #[.pointer none, .int .i64 0, .int .i64 0] w fun e w' => e = .returned (.tuple #[.slice none 0 0, .int .i64 r1]) ∧ Below w.heap.size w w' := by
  have hr : r1 = 100 := (Option.some.inj h).symm
  subst hr
  clear h
  have hmf : ∀ (fn : Fn) (first cap : Array Value) (w : World), (Instr.makeFunc fn first cap).run Try.prog w = .ok (.func fn first cap) w := fun _ _ _ _ => rfl
  go_enter Try.func7, Try.ntmps7
  go_wp2_with (first
    | ((with_reducible refine gate_dst (N := 3) rfl ?_); refine box_event ?hg (N := 3) ?hd (cs := #[.pointer none]) (t := 28) ?hr ?_; (case hd => rfl); (case hg => rfl); (case hr => first | (go_simp; done) | (go_simp; rfl)); intro gb hgb w1 hbox hb1; clear hgb; have hcz0 : w1.cell? ⟨gb, 0, none⟩ = some (.pointer none) := (blk_cell hbox 0).trans rfl; have hf0 := blk_frozen hbox 0))
  go_ret2
  exact ⟨rfl, by repeat (first | exact hb1 | apply pw_below_drewN | apply below_drew1 | apply below_alloc)⟩


/-! ### gangwayref9_Mem_Has: function 29 -/
abbrev gangwayref9_Mem_Has.t : Bool := true
abbrev gangwayref9_Mem_Has.f_ : Bool := false
theorem gangwayref9_Mem_Has.bc {w : World} {g : Nat} {cs : Array Value} {t : TypeId} (h : Aside0 (w.heap[g]? = some (.cells cs t (0, 0)))) (i : Nat) {v : Value} (e : cs[i]? = some v := by rfl) : w.cell? ⟨g, i, none⟩ = some v := (blk_cell h.out i).trans e
theorem gangwayref9_Mem_Has.bkept {W0 W W2 : World} {g : Nat} {o : Obj} {S : Nat → Prop} (_b : Aside0 (W0.heap[g]? = some o)) (h : W.heap[g]? = some o) (hk : Kept W W2 S) (hn : ¬ S g) : W2.heap[g]? = some o := blk_kept h hk hn
theorem gangwayref9_Mem_Has.bbelow {W0 w w1 : World} {g : Nat} {o : Obj} (_b : Aside0 (W0.heap[g]? = some o)) (h : w.heap[g]? = some o) (hb : Below w.heap.size w w1) : w1.heap[g]? = some o := blk_below h hb
theorem gangwayref9_Mem_Has.e1 {α : Type _} (xs : List α) (i : Nat) (a : α) : xs.toArray.setIfInBounds i a = (xs.set i a).toArray := by simp
theorem gangwayref9_Mem_Has.e2 {α : Type _} (x a : α) (xs : List α) : (x :: xs).set 0 a = a :: xs := rfl
theorem gangwayref9_Mem_Has.e3 {α : Type _} (x a : α) (xs : List α) (n : Nat) : (x :: xs).set (n + 1) a = x :: xs.set n a := rfl
def gangwayref9_Mem_Has.f (l0_0 : List Int) (s0_1 : Int) (a1 : Int) (a2 : Int) : Option (Bool × List Int × Int) := if a1 ≥ 0 then (if a2 ≥ 0 then (if a2 ≤ (l0_0.length : Int) then (some (decide (a1 ≤ (wrap64 ((l0_0.length : Int) - a2))), l0_0, s0_1)) else (some (false, l0_0, s0_1))) else (some (false, l0_0, s0_1))) else (some (false, l0_0, s0_1))
theorem gangwayref9_Mem_Has.am_ {p : Prop} (h : p) : Aside0 p := Aside0.mk h
theorem gangwayref9_Mem_Has.bm_ {α β : Type _} {o : Option α} {f : α → Option β} {b : β} (h : o.bind f = some b) : ∃ a, o = some a ∧ f a = some b := Option.bind_eq_some_iff.mp h
set_option maxHeartbeats 8000000 in
set_option maxRecDepth 100000 in
theorem gangwayref9_Mem_Has.calls (g : Nat) (P0_0_ : Nat → Prop) (u9000_ : Value) (l0_0 : List Int) (s0_1 : Int) (a1 : Int) (a2 : Int) (r1 : Bool) (r2 : List Int) (r3 : Int) (w0 w : World) (hI : IsS57 w0 w g u9000_ s0_1) (hB : Below w0.heap.size w0 w) (ho0_0 : Kd.R (Kd.int .u8) 5 w w0.heap.size P0_0_ u9000_ l0_0) (h : gangwayref9_Mem_Has.f l0_0 s0_1 a1 a2 = some (r1, r2, r3)) :
  Calls Try.prog 29 #[.pointer (some ⟨g, 0, none⟩), .int .i64 a1, .int .i64 a2] w fun e w' => ∃ v1_ : Value, e = .returned (.bool r1) ∧ Kd.R (Kd.int .u8) 5 w' w0.heap.size (fun k_ => (P0_0_ k_ ∨ w.heap.size ≤ k_)) v1_ r2 ∧ IsS57 w0 w' g v1_ r3 ∧ Below w0.heap.size w0 w' ∧ Kept w w' (fun k_ => (P0_0_ k_) ∨ k_ = g) := by
 have HO0_0 := am_ (show Kd.R (Kd.int .u8) 5 w w0.heap.size (fun k_ => (P0_0_ k_ ∨ w.heap.size ≤ k_)) u9000_ l0_0 from Kd.R_mono ho0_0 (fun k_ hk => (.inl hk)))
 have HI0 := am_ hI
 have HL := am_ hB.size
 clear hI
 have HK := am_ (Kept.refl w (fun k_ => (P0_0_ k_) ∨ k_ = g))
 have HW0 := am_ hB.size
 have HB := am_ hB
 clear hB
 have H : (if a1 ≥ 0 then (if a2 ≥ 0 then (if a2 ≤ (l0_0.length : Int) then (some (decide (a1 ≤ (wrap64 ((l0_0.length : Int) - a2))), l0_0, s0_1)) else (some (false, l0_0, s0_1))) else (some (false, l0_0, s0_1))) else (some (false, l0_0, s0_1))) = some (r1, r2, r3) := h
 clear h
 by_cases c4 : a1 ≥ 0
 ·rw [if_pos c4] at H
  have c4b0 : decide (0 ≤ a1) = true := decide_eq_true c4
  clear c4
  by_cases c5 : a2 ≥ 0
  ·rw [if_pos c5] at H
   have c5b0 : decide (0 ≤ a2) = true := decide_eq_true c5
   clear c5
   by_cases c6 : a2 ≤ (l0_0.length : Int)
   ·rw [if_pos c6] at H
    have c6b0 : decide (a2 ≤ (l0_0.length : Int)) = true := decide_eq_true c6
    clear c6
    simp only [Option.some.injEq, Prod.mk.injEq] at H
    obtain ⟨rfl, rfl, rfl⟩ := H
    obtain ⟨HGz7, hgz7⟩ := HI0.out
    have hcz7_0 := cellS57_0 HGz7
    have hcz7_1 := cellS57_1 HGz7
    have hfz7_0 := blk_frozen HGz7 0
    have hfz7_1 := blk_frozen HGz7 1
    clear HGz7 hgz7
    obtain ⟨Ao8, co8, eo8⟩ := Kd.R_slice HO0_0.out
    subst eo8
    go_enter Try.func29, Try.ntmps29
    go_wp2
    go_ret
    exact ⟨_, by first | rfl | (simp [errW_none, errW_some] <;> rfl) | (simp [*, errW_none, errW_some] <;> rfl), by (with_reducible repeat (first | apply Kd.R_alloc | apply Kd.R_drewN | apply Kd.R_drew)); exact HO0_0.out, by repeat (first | (with_reducible first | exact HI0.out | apply IsS57.alloc | apply IsS57.drewN | apply IsS57.drew | apply IsS57.set_0 | apply IsS57.set_1) | exact HI0.out), by repeat (first | (with_reducible first | exact HB.out | apply below_alloc | apply pw_below_drewN | apply below_drew1 | refine below_set ?_ (IsS57.ge HI0.out)) | exact HB.out), by repeat (first | (with_reducible first | exact HK.out | apply Kept.alloc | apply Kept.drewN | apply Kept.drew | refine Kept.setCell ?_ (.inl (.inr rfl)) _) | exact HK.out)⟩
   ·rw [if_neg c6] at H
    have c6b0 : decide (a2 ≤ (l0_0.length : Int)) = false := decide_eq_false c6
    clear c6
    simp only [Option.some.injEq, Prod.mk.injEq] at H
    obtain ⟨rfl, rfl, rfl⟩ := H
    obtain ⟨HGz9, hgz9⟩ := HI0.out
    have hcz9_0 := cellS57_0 HGz9
    have hcz9_1 := cellS57_1 HGz9
    have hfz9_0 := blk_frozen HGz9 0
    have hfz9_1 := blk_frozen HGz9 1
    clear HGz9 hgz9
    obtain ⟨Ao10, co10, eo10⟩ := Kd.R_slice HO0_0.out
    subst eo10
    go_enter Try.func29, Try.ntmps29
    go_wp2
    go_ret
    exact ⟨_, by first | rfl | (simp [errW_none, errW_some] <;> rfl) | (simp [*, errW_none, errW_some] <;> rfl), by (with_reducible repeat (first | apply Kd.R_alloc | apply Kd.R_drewN | apply Kd.R_drew)); exact HO0_0.out, by repeat (first | (with_reducible first | exact HI0.out | apply IsS57.alloc | apply IsS57.drewN | apply IsS57.drew | apply IsS57.set_0 | apply IsS57.set_1) | exact HI0.out), by repeat (first | (with_reducible first | exact HB.out | apply below_alloc | apply pw_below_drewN | apply below_drew1 | refine below_set ?_ (IsS57.ge HI0.out)) | exact HB.out), by repeat (first | (with_reducible first | exact HK.out | apply Kept.alloc | apply Kept.drewN | apply Kept.drew | refine Kept.setCell ?_ (.inl (.inr rfl)) _) | exact HK.out)⟩
  ·rw [if_neg c5] at H
   have c5b0 : decide (0 ≤ a2) = false := decide_eq_false c5
   clear c5
   simp only [Option.some.injEq, Prod.mk.injEq] at H
   obtain ⟨rfl, rfl, rfl⟩ := H
   go_enter Try.func29, Try.ntmps29
   go_wp2
   go_ret
   exact ⟨_, by first | rfl | (simp [errW_none, errW_some] <;> rfl) | (simp [*, errW_none, errW_some] <;> rfl), by (with_reducible repeat (first | apply Kd.R_alloc | apply Kd.R_drewN | apply Kd.R_drew)); exact HO0_0.out, by repeat (first | (with_reducible first | exact HI0.out | apply IsS57.alloc | apply IsS57.drewN | apply IsS57.drew | apply IsS57.set_0 | apply IsS57.set_1) | exact HI0.out), by repeat (first | (with_reducible first | exact HB.out | apply below_alloc | apply pw_below_drewN | apply below_drew1 | refine below_set ?_ (IsS57.ge HI0.out)) | exact HB.out), by repeat (first | (with_reducible first | exact HK.out | apply Kept.alloc | apply Kept.drewN | apply Kept.drew | refine Kept.setCell ?_ (.inl (.inr rfl)) _) | exact HK.out)⟩
 ·rw [if_neg c4] at H
  have c4b0 : decide (0 ≤ a1) = false := decide_eq_false c4
  clear c4
  simp only [Option.some.injEq, Prod.mk.injEq] at H
  obtain ⟨rfl, rfl, rfl⟩ := H
  go_enter Try.func29, Try.ntmps29
  go_wp2
  go_ret
  exact ⟨_, by first | rfl | (simp [errW_none, errW_some] <;> rfl) | (simp [*, errW_none, errW_some] <;> rfl), by (with_reducible repeat (first | apply Kd.R_alloc | apply Kd.R_drewN | apply Kd.R_drew)); exact HO0_0.out, by repeat (first | (with_reducible first | exact HI0.out | apply IsS57.alloc | apply IsS57.drewN | apply IsS57.drew | apply IsS57.set_0 | apply IsS57.set_1) | exact HI0.out), by repeat (first | (with_reducible first | exact HB.out | apply below_alloc | apply pw_below_drewN | apply below_drew1 | refine below_set ?_ (IsS57.ge HI0.out)) | exact HB.out), by repeat (first | (with_reducible first | exact HK.out | apply Kept.alloc | apply Kept.drewN | apply Kept.drew | refine Kept.setCell ?_ (.inl (.inr rfl)) _) | exact HK.out)⟩

/-! ### gangwayref20_Number: function 30 -/
def gangwayref20_Number.l0 : Nat → List Int → Int → Int → Option (Int)
  | 0, _, _, _ => none
  | k + 1, x0, x3, x4 => if x4 ≥ 0 then (if 0 ≤ x4 then (if x4 < (x0.length : Int) then (gangwayref20_Number.l0 k x0 (Go.bits .or .u64 (IntKind.u64.wrap (x3 * 256)) (IntKind.u64.wrap (rd x0 x4))) (wrap64 (x4 - 1))) else (none)) else (none)) else (some x3)
def gangwayref20_Number.f (k : Nat) (l0 : List Int) : Option (Int) := gangwayref20_Number.l0 k l0 0 (wrap64 ((l0.length : Int) - 1))
theorem gangwayref20_Number.mono_l : ∀ k, (∀ y0 y1 y2, LeO (gangwayref20_Number.l0 k y0 y1 y2) (gangwayref20_Number.l0 (k + 1) y0 y1 y2))
  | 0 => fun _ _ _ r h => by simp [gangwayref20_Number.l0] at h
  | k + 1 => by
    have ih0 := gangwayref20_Number.mono_l k
    · intro y0 y1 y2
      unfold gangwayref20_Number.l0
      repeat' first
      | (with_reducible exact ih0 _ _ _)
      | (with_reducible exact LeO.refl _)
      | (with_reducible exact LeO.none _)
      | (with_reducible refine LeO.ite ?_ ?_)
      | (with_reducible refine LeO.bind ?_ (fun _ => ?_))
      | exact ih0 _ _ _
      | exact LeO.none _
      | refine LeO.ite ?_ ?_
      | refine LeO.bind ?_ (fun _ => ?_)
theorem gangwayref20_Number.mono : ∀ a0 k, LeO (gangwayref20_Number.f k a0) (gangwayref20_Number.f (k + 1) a0) := by
  intro a0 k
  have ih0 := gangwayref20_Number.mono_l k
  unfold gangwayref20_Number.f
  repeat' first
      | (with_reducible exact ih0 _ _ _)
      | (with_reducible exact LeO.refl _)
      | (with_reducible exact LeO.none _)
      | (with_reducible refine LeO.ite ?_ ?_)
      | (with_reducible refine LeO.bind ?_ (fun _ => ?_))
      | exact ih0 _ _ _
      | exact LeO.none _
      | refine LeO.ite ?_ ?_
      | refine LeO.bind ?_ (fun _ => ?_)
set_option maxHeartbeats 8000000 in
set_option maxRecDepth 100000 in
theorem gangwayref20_Number.calls (k : Nat) (A0 : Option Addr) (c0 : Nat) (l0 : List Int) (r : Int) (w : World) (hr0 : Kd.C (Kd.int .u8) w A0 l0.length l0) (hc0 : l0.length ≤ c0) (h : gangwayref20_Number.f k l0 = some r) :
    Calls Try.prog 30 #[.slice A0 l0.length c0] w fun e w' => e = .returned (.int .u64 r) ∧ Drawn0 w w' := by
  have HR0 := Aside0.mk hr0
  have HC0 := Aside0.mk hc0
  clear hr0 hc0
  have H : (gangwayref20_Number.l0 k l0 0 (wrap64 ((l0.length : Int) - 1))) = some r := h
  clear h
  have H' := Aside0.mk H
  clear H
  go_enter Try.func30, Try.ntmps30
  go_wp2
  go_loopg [3, 4] k (fun kq v3 v4 w' => ∃ (x3_1 : Int) (x4_1 : Int), v3 = .int .u64 x3_1 ∧ v4 = .int .i64 x4_1 ∧ Aside0 (gangwayref20_Number.l0 kq l0 x3_1 x4_1 = some r) ∧ Aside0 (kq ≤ k) ∧ Drawn0 w w')
  case atStart => exact ⟨(0), (wrap64 ((l0.length : Int) - 1)), (by first | rfl | (simp; done) | (simp [*]; done)), (by first | rfl | (simp; done) | (simp [*]; done)), H', ⟨Nat.le_refl _⟩, by repeat (first | exact Drawn0.refl _ | apply Drawn0.step)⟩
  case round =>
    clear H'
    obtain ⟨x3_1, x4_1, rfl, rfl, HA, HK1, ⟨m1, rfl⟩⟩ := hrel
    cases gk with
    | zero => exact absurd HA.out (by simp [gangwayref20_Number.l0])
    | succ k1 =>
      have H := HA.out
      clear HA
      simp only [gangwayref20_Number.l0] at H
      by_cases c2 : x4_1 ≥ 0
      · rw [if_pos c2] at H
        have c2b0 : decide (0 ≤ x4_1) = true := decide_eq_true c2
        clear c2
        by_cases c3 : 0 ≤ x4_1
        · rw [if_pos c3] at H
          have c3b0 : decide (0 ≤ x4_1) = true := decide_eq_true c3
          clear c3
          by_cases c4 : x4_1 < (l0.length : Int)
          · rw [if_pos c4] at H
            have c4b0 : decide (x4_1 < (l0.length : Int)) = true := decide_eq_true c4
            clear c4
            have H' := Aside0.mk H
            clear H
            have p174 : 0 ≤ (x4_1 : Int) := of_decide_eq_true (by first | (with_reducible assumption) | assumption)
            have q174 : x4_1 < (l0.length : Int) := of_decide_eq_true (by first | (with_reducible assumption) | assumption)
            obtain ⟨ad174, e174, hx174_0⟩ := Kd.at_int HR0.out x4_1 p174 q174
            cases e174
            replace p174 := eq_true p174
            replace q174 := eq_true q174
            go_wp2
            go_roundg k1
            case measure => have := HK1.out; omega
            case rel => exact ⟨(Go.bits .or .u64 (IntKind.u64.wrap (x3_1 * 256)) (IntKind.u64.wrap (rd l0 x4_1))), (wrap64 (x4_1 - 1)), (by first | rfl | (simp; done) | (simp [*]; done)), (by first | rfl | (simp; done) | (simp [*]; done)), H', ⟨by have := HK1.out; omega⟩, by repeat (first | exact Drawn0.refl _ | apply Drawn0.step)⟩
          · rw [if_neg c4] at H
            exact absurd H (by simp)
        · rw [if_neg c3] at H
          exact absurd H (by simp)
      · rw [if_neg c2] at H
        have c2b0 : decide (0 ≤ x4_1) = false := decide_eq_false c2
        clear c2
        obtain rfl := Option.some.inj H
        go_wp2
        go_ret
        exact ⟨by first | rfl | (simp; done) | (simp [*]; done), by repeat (first | exact Drawn0.refl _ | apply Drawn0.step)⟩

end Go.Proofs.Ytdoaininjfbemaa.PAll
