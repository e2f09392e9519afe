/- Printed by a copy of the printer that was turned for this claim: functions as plain Lean functions, with proofs that their calls come to these; or words that such proofs use. -/
import Derived.Test.YtdoaininjfbemaaPAllx0
import Derived.Test.YtdoaininjfbemaaPAllx2
import Derived.Test.YtdoaininjfbemaaPAllx5
namespace Go.Proofs.Ytdoaininjfbemaa.PAll
open Go.RowKit Go.Proofs.YtdoaininjfbemaaW.PrintWords Go.Proofs.YtdoaininjfbemaaW.PrintLast Go.Proofs.YtdoaininjfbemaaW.PrintMore
attribute [local go_sem] max2_int min2_int max_two min_two max_three min_three max_four min_four   -- for this text's walks alone
set_option linter.unusedVariables false
set_option linter.unusedSimpArgs false

/-! ### gangwayref20_Pieces: function 8 -/
abbrev gangwayref20_Pieces.t : Bool := true
abbrev gangwayref20_Pieces.f_ : Bool := false
def gangwayref20_Pieces.bb0_ : Array Bool := #[t, t, t, t, t, t, t, t, t, t, t]
def gangwayref20_Pieces.bb1_ : Array Bool := #[t, t, t, t, t, t, t, t, t, t, f_]
def gangwayref20_Pieces.bb2_ : Array Bool := #[t, t, t, t, t, t, t, t, f_, t, f_]
def gangwayref20_Pieces.bb3_ : Array Bool := #[t, t, t, t, t, t, t, t, t, f_, f_]
def gangwayref20_Pieces.bb4_ : Array Bool := #[t, t, t, t, t, t, t, f_, f_, t, f_]
def gangwayref20_Pieces.bb5_ : Array Bool := #[t, t, t, t, t, t, t, t, f_, f_, f_]
def gangwayref20_Pieces.bb6_ : Array Bool := #[t, t, t, t, t, t, f_, f_, f_, t, f_]
def gangwayref20_Pieces.bb7_ : Array Bool := #[t, t, t, t, t, t, t, f_, f_, f_, f_]
def gangwayref20_Pieces.bb8_ : Array Bool := #[t, t, t, f_, t, t, f_, f_, f_, t, f_]
def gangwayref20_Pieces.bb9_ : Array Bool := #[t, t, t, t, t, t, f_, f_, f_, f_, f_]
def gangwayref20_Pieces.bb10_ : Array Bool := #[t, t, f_, f_, t, t, f_, f_, f_, t, f_]
def gangwayref20_Pieces.bb11_ : Array Bool := #[t, t, t, f_, t, t, f_, f_, f_, f_, f_]
def gangwayref20_Pieces.bb12_ : Array Bool := #[t, t, f_, f_, t, t, f_, f_, f_, f_, f_]
def gangwayref20_Pieces.bb13_ : Array Bool := #[t, t, f_, f_, t, f_, f_, f_, f_, f_, f_]
def gangwayref20_Pieces.bb14_ : Array Bool := #[t, t, f_, f_, f_, f_, f_, f_, f_, f_, f_]
def gangwayref20_Pieces.bb15_ : Array Bool := #[t, f_, f_, f_, f_, f_, f_, f_, f_, f_, f_]
def gangwayref20_Pieces.bb16_ : Array Bool := #[f_, f_, f_, f_, f_, f_, f_, f_, f_, f_, f_]
theorem gangwayref20_Pieces.bc {w : World} {g : Nat} {cs : Array Value} {t : TypeId} (h : Aside0 (w.heap[g]? = some (.cells cs t (0, 0)))) (i : Nat) {v : Value} (e : cs[i]? = some v := by rfl) : w.cell? ⟨g, i, none⟩ = some v := (blk_cell h.out i).trans e
theorem gangwayref20_Pieces.bkept {W0 W W2 : World} {g : Nat} {o : Obj} {S : Nat → Prop} (_b : Aside0 (W0.heap[g]? = some o)) (h : W.heap[g]? = some o) (hk : Kept W W2 S) (hn : ¬ S g) : W2.heap[g]? = some o := blk_kept h hk hn
theorem gangwayref20_Pieces.bbelow {W0 w w1 : World} {g : Nat} {o : Obj} (_b : Aside0 (W0.heap[g]? = some o)) (h : w.heap[g]? = some o) (hb : Below w.heap.size w w1) : w1.heap[g]? = some o := blk_below h hb
theorem gangwayref20_Pieces.e1 {α : Type _} (xs : List α) (i : Nat) (a : α) : xs.toArray.setIfInBounds i a = (xs.set i a).toArray := by simp
theorem gangwayref20_Pieces.e2 {α : Type _} (x a : α) (xs : List α) : (x :: xs).set 0 a = a :: xs := rfl
theorem gangwayref20_Pieces.e3 {α : Type _} (x a : α) (xs : List α) (n : Nat) : (x :: xs).set (n + 1) a = x :: xs.set n a := rfl
mutual
def gangwayref20_Pieces.j0 : Nat → Int → Int → Bool → List Int → Int → Option ((List (S50)) × Int × List Int × Int)
 | 0, _, _, _, _, _ => none
 | k + 1, x1, x2, x18, x1000, x1001 => if x18 = true then (some (([] : List (S50)), 28, x1000, x1001)) else ((gangwayref9_Mem_Has.f x1000 x1001 x1 (wrap64 (8 * x2))).bind fun bt175 => (if bt175.1 = true then (gangwayref20_Pieces.l0 k x1 x2 ([] : List (S50)) 0 0 bt175.2.1 bt175.2.2) else (some (([] : List (S50)), 21, bt175.2.1, bt175.2.2))))
def gangwayref20_Pieces.l0 : Nat → Int → Int → List (S50) → Int → Int → List Int → Int → Option ((List (S50)) × Int × List Int × Int)
 | 0, _, _, _, _, _, _, _ => none
 | k + 1, x1, x2, x8, x9, x10, x1000, x1001 => if x10 < x2 then (if 0 ≤ (wrap64 (x1 + (wrap64 (8 * x10)))) then (if (wrap64 (x1 + (wrap64 (8 * x10)))) ≤ (wrap64 ((wrap64 (x1 + (wrap64 (8 * x10)))) + 8)) then (if (wrap64 ((wrap64 (x1 + (wrap64 (8 * x10)))) + 8)) ≤ (x1000.length : Int) then ((some ((x1000.take ((wrap64 ((wrap64 (x1 + (wrap64 (8 * x10)))) + 8)) : Int).toNat).drop ((wrap64 (x1 + (wrap64 (8 * x10)))) : Int).toNat : List Int)).bind fun y180 => (if 4 ≤ (y180.length : Int) then ((gangwayref20_Number.f k (y180.take 4)).bind fun t188 => ((gangwayref20_Number.f k (y180.drop 4)).bind fun t193 => ((gangwayref9_Mem_Has.f x1000 x1001 (wrap64 (t188)) (wrap64 (t193))).bind fun bt195 => (if bt195.1 = true then (if x8.length < 8796093022208 then (gangwayref20_Pieces.l0 k x1 x2 (x8 ++ [(⟨wrap64 (t188), wrap64 (t193)⟩ : S50)]) (wrap64 (x9 + (wrap64 (t193)))) (wrap64 (x10 + 1)) bt195.2.1 bt195.2.2) else (none)) else (some (([] : List (S50)), 21, bt195.2.1, bt195.2.2)))))) else (none))) else (none)) else (none)) else (none)) else (if x9 > 1048576 then (some (([] : List (S50)), 28, x1000, x1001)) else (some (x8, 0, x1000, x1001)))
end
def gangwayref20_Pieces.f (k : Nat) (l0_0 : List Int) (s0_1 : Int) (a1 : Int) (a2 : Int) : Option ((List (S50)) × Int × List Int × Int) := if a2 < 0 then (gangwayref20_Pieces.j0 k a1 a2 true l0_0 s0_1) else (gangwayref20_Pieces.j0 k a1 a2 (decide (a2 > 64)) l0_0 s0_1)
theorem gangwayref20_Pieces.mono_l : ∀ k, (∀ y0 y1 y2 y3 y4, LeO (gangwayref20_Pieces.j0 k y0 y1 y2 y3 y4) (gangwayref20_Pieces.j0 (k + 1) y0 y1 y2 y3 y4)) ∧ (∀ y0 y1 y2 y3 y4 y5 y6, LeO (gangwayref20_Pieces.l0 k y0 y1 y2 y3 y4 y5 y6) (gangwayref20_Pieces.l0 (k + 1) y0 y1 y2 y3 y4 y5 y6))
 | 0 => ⟨fun _ _ _ _ _ r h => by simp [gangwayref20_Pieces.j0] at h, fun _ _ _ _ _ _ _ r h => by simp [gangwayref20_Pieces.l0] at h⟩
 | k + 1 => by
  obtain ⟨ih0, ih1⟩ := gangwayref20_Pieces.mono_l k
  refine ⟨?_, ?_⟩
  ·intro y0 y1 y2 y3 y4
   unfold gangwayref20_Pieces.j0
   repeat' first
   | (with_reducible apply ih0)
   | (with_reducible apply ih1)
   | (with_reducible exact gangwayref20_Number.mono _ _)
   | (with_reducible exact LeO.refl _)
   | (with_reducible exact LeO.none _)
   | (with_reducible refine LeO.ite ?_ ?_)
   | (with_reducible refine LeO.bind ?_ (fun _ => ?_))
   | apply ih0
   | apply ih1
   | exact gangwayref20_Number.mono _ _
   | exact LeO.none _
   | refine LeO.ite ?_ ?_
   | refine LeO.bind ?_ (fun _ => ?_)
  ·intro y0 y1 y2 y3 y4 y5 y6
   unfold gangwayref20_Pieces.l0
   repeat' first
   | (with_reducible apply ih0)
   | (with_reducible apply ih1)
   | (with_reducible exact gangwayref20_Number.mono _ _)
   | (with_reducible exact LeO.refl _)
   | (with_reducible exact LeO.none _)
   | (with_reducible refine LeO.ite ?_ ?_)
   | (with_reducible refine LeO.bind ?_ (fun _ => ?_))
   | apply ih0
   | apply ih1
   | exact gangwayref20_Number.mono _ _
   | exact LeO.none _
   | refine LeO.ite ?_ ?_
   | refine LeO.bind ?_ (fun _ => ?_)
theorem gangwayref20_Pieces.mono : ∀ a0 a1 a2 a3 k, LeO (gangwayref20_Pieces.f k a0 a1 a2 a3) (gangwayref20_Pieces.f (k + 1) a0 a1 a2 a3) := by
 intro a0 a1 a2 a3 k
 obtain ⟨ih0, ih1⟩ := gangwayref20_Pieces.mono_l k
 unfold gangwayref20_Pieces.f
 repeat' first
   | (with_reducible apply ih0)
   | (with_reducible apply ih1)
   | (with_reducible exact gangwayref20_Number.mono _ _)
   | (with_reducible exact LeO.refl _)
   | (with_reducible exact LeO.none _)
   | (with_reducible refine LeO.ite ?_ ?_)
   | (with_reducible refine LeO.bind ?_ (fun _ => ?_))
   | apply ih0
   | apply ih1
   | exact gangwayref20_Number.mono _ _
   | exact LeO.none _
   | refine LeO.ite ?_ ?_
   | refine LeO.bind ?_ (fun _ => ?_)
def gangwayref20_Pieces.T11 : Bool × List (List Nat × List Nat) := (true, [([], []), ([0], [0]), ([1], [1]), ([2], [2]), ([], []), ([4], [4]), ([5, 2], [5]), ([6], [6]), ([3, 7], [3, 7]), ([], []), ([9, 8, 6, 0, 1, 2, 3, 4, 5, 6, 7, 8, 9], [8, 9])])
def gangwayref20_Pieces.B11 : List Nat := [0, 1, 3, 7, 0, 16, 55, 119, 255, 0, 1023]
theorem gangwayref20_Pieces.tab11 : rtab .any (opsOf Try.f8 11) = gangwayref20_Pieces.T11 := by kernel_rfl
theorem gangwayref20_Pieces.bits11 : waitsOk gangwayref20_Pieces.T11.2 gangwayref20_Pieces.B11 = true := by kernel_rfl
theorem gangwayref20_Pieces.aa_0 {p : Prop} (h : p := by repeat (first | (with_reducible exact HR192.out) | (with_reducible refine Kd.C_alloc ?_ _) | (with_reducible refine Kd.C_drewN ?_ _) | (with_reducible refine Kd.C_drew ?_) | exact HR192.out)) : p := h
theorem gangwayref20_Pieces.aa_1 {p : Prop} (h : p := by repeat (first | (with_reducible first | exact HB.out | apply below_alloc | apply pw_below_drewN | apply below_drew1 | refine below_set ?_ (IsS57.ge HI0.out)) | exact HB.out)) : p := h
theorem gangwayref20_Pieces.aa_2 {p : Prop} (h : p := by first | exact HK.out.1 | exact (show Kept w _ (fun k_ => (P0_0_ k_) ∨ k_ = g) from by repeat (first | (with_reducible first | exact HK.out | apply Kept.alloc | apply Kept.drewN | apply Kept.drew | refine Kept.setCell ?_ (.inl (.inr rfl)) _) | exact HK.out)).1) : p := h
theorem gangwayref20_Pieces.aa_3 {p : Prop} (h : p := by (try simp only [List.map_toArray, List.map_cons, List.map_nil]); first | done | rfl | (simp only [List.length_drop, List.length_take]; rfl)) : p := h
theorem gangwayref20_Pieces.aa_4 {p : Prop} (h : p := by repeat (first | (with_reducible first | exact HK.out | apply Kept.alloc | apply Kept.drewN | apply Kept.drew | refine Kept.setCell ?_ (.inl (.inr rfl)) _ | refine Kept.setCell ?_ (.inr GW194.out) _) | exact HK.out)) : p := h
theorem gangwayref20_Pieces.aa_5 {p : Prop} (h : p := by repeat (first | (with_reducible exact HR187.out) | (with_reducible refine Kd.C_alloc ?_ _) | (with_reducible refine Kd.C_drewN ?_ _) | (with_reducible refine Kd.C_drew ?_) | exact HR187.out)) : p := h
theorem gangwayref20_Pieces.aa_6 {p : Prop} (h : p := by repeat (first | (with_reducible exact HR183.out) | (with_reducible refine Kd.C_alloc ?_ _) | (with_reducible refine Kd.C_drewN ?_ _) | (with_reducible refine Kd.C_drew ?_) | exact HR183.out)) : p := h
theorem gangwayref20_Pieces.aa_7 {p : Prop} (h : p := by repeat (first | (with_reducible first | exact HB.out | apply below_alloc | apply pw_below_drewN | apply below_drew1 | refine below_set ?_ (IsS57.ge HI0.out) | refine below_set ?_ GE194.out) | exact HB.out)) : p := h
theorem gangwayref20_Pieces.aa_8 {p : Prop} (h : p := by (with_reducible repeat (first | apply Kd.R_alloc | apply Kd.R_drewN | apply Kd.R_drew)); exact HO_8.out) : p := h
theorem gangwayref20_Pieces.aa_9 {p : Prop} (h : p := by repeat (first | (with_reducible first | exact HI0.out | apply IsS57.alloc | apply IsS57.drewN | apply IsS57.drew | apply IsS57.set_0 | apply IsS57.set_1 | refine IsS57.far ?_ NB0_194.out _) | exact HI0.out)) : p := h
theorem gangwayref20_Pieces.aa_10 {p : Prop} (h : p := by repeat (first | (with_reducible first | exact HK.out | apply Kept.alloc | apply Kept.drewN | apply Kept.drew | refine Kept.setCell ?_ (.inl (.inr rfl)) _) | exact HK.out)) : p := h
theorem gangwayref20_Pieces.aa_11 {p : Prop} (h : p := by (with_reducible repeat (first | apply Kd.R_alloc | apply Kd.R_drewN | apply Kd.R_drew)); exact HO_1000.out) : p := h
theorem gangwayref20_Pieces.aa_12 {p : Prop} (h : p := by (with_reducible repeat (first | refine blk_drewN ?_ _ | refine blk_drew ?_ | refine blk_alloc ?_ _)); exact BK194.out) : p := h
theorem gangwayref20_Pieces.aa_13 {p : Prop} (h : p := by repeat (first | (with_reducible first | exact HI0.out | apply IsS57.alloc | apply IsS57.drewN | apply IsS57.drew | apply IsS57.set_0 | apply IsS57.set_1) | exact HI0.out)) : p := h
theorem gangwayref20_Pieces.aa_14 {p : Prop} (h : p := by first | exact HK.out.1 | exact (show Kept w _ (fun k_ => (P0_0_ k_) ∨ k_ = g) from by repeat (first | (with_reducible first | exact HK.out | apply Kept.alloc | apply Kept.drewN | apply Kept.drew | refine Kept.setCell ?_ (.inl (.inr rfl)) _ | refine Kept.setCell ?_ (.inr GW194.out) _) | exact HK.out)).1) : p := h
theorem gangwayref20_Pieces.aa_15 {p : Prop} (h : p := by simp only [putAll, Act.put, List.setIfInBounds_toArray, List.set_cons_zero, List.set_cons_succ]) : p := h
theorem gangwayref20_Pieces.aa_16 {p : Prop} (h : p := by first | (with_reducible assumption) | assumption) : p := h
theorem gangwayref20_Pieces.aa_17 {p : Prop} (h : p := by (with_reducible repeat (first | apply Kd.R_alloc | apply Kd.R_drewN | apply Kd.R_drew)); exact HO0_0.out) : p := h
theorem gangwayref20_Pieces.aa_18 {p : Prop} (h : p := by repeat (first | exact aa_5 | (with_reducible refine Kd.C_alloc ?_ _) | (with_reducible refine Kd.C_drewN ?_ _) | (with_reducible refine Kd.C_drew ?_))) : p := h
theorem gangwayref20_Pieces.aa_19 {p : Prop} (h : p := by repeat (first | exact aa_0 | (with_reducible refine Kd.C_alloc ?_ _) | (with_reducible refine Kd.C_drewN ?_ _) | (with_reducible refine Kd.C_drew ?_))) : p := h
theorem gangwayref20_Pieces.am_ {p : Prop} (h : p) : Aside0 p := Aside0.mk h
theorem gangwayref20_Pieces.bm_ {α β : Type _} {o : Option α} {f : α → Option β} {b : β} (h : o.bind f = some b) : ∃ a, o = some a ∧ f a = some b := Option.bind_eq_some_iff.mp h
set_option maxHeartbeats 8000000 in
set_option maxRecDepth 100000 in
theorem gangwayref20_Pieces.calls (k : Nat) (g : Nat) (P0_0_ : Nat → Prop) (u9000_ : Value) (l0_0 : List Int) (s0_1 : Int) (a1 : Int) (a2 : Int) (r1 : List (S50)) (r2 : Int) (r3 : List Int) (r4 : Int) (w0 w : World) (hI : IsS57 w0 w g u9000_ s0_1) (hB : Below w0.heap.size w0 w) (ho0_0 : Kd.R (Kd.int .u8) 5 w w0.heap.size P0_0_ u9000_ l0_0) (h : gangwayref20_Pieces.f k l0_0 s0_1 a1 a2 = some (r1, r2, r3, r4)) :
  Calls Try.prog 8 #[.pointer (some ⟨g, 0, none⟩), .int .i64 a1, .int .i64 a2] w fun e w' => ∃ v0_ v2_ : Value, e = .returned (.tuple #[v0_, .int .i64 r2]) ∧ Kd.R k50 50 w' w0.heap.size (fun k_ => (P0_0_ k_ ∨ w.heap.size ≤ k_)) v0_ r1 ∧ Kd.R (Kd.int .u8) 5 w' w0.heap.size (fun k_ => (P0_0_ k_ ∨ w.heap.size ≤ k_)) v2_ r3 ∧ IsS57 w0 w' g v2_ r4 ∧ Below w0.heap.size w0 w' ∧ Kept w w' (fun k_ => (P0_0_ k_) ∨ k_ = g) := by
 have hu50 := Try.underlying50
 have HO0_0 := am_ (show Kd.R (Kd.int .u8) 5 w w0.heap.size (fun k_ => (P0_0_ k_ ∨ w.heap.size ≤ k_)) u9000_ l0_0 from Kd.R_mono ho0_0 (fun k_ hk => (.inl hk)))
 have HI0 := am_ hI
 have HL := am_ hB.size
 clear hI
 have HK := am_ (Kept.refl w (fun k_ => (P0_0_ k_) ∨ k_ = g))
 have HW0 := am_ hB.size
 have HB := am_ hB
 clear hB
 have H : (if a2 < 0 then (j0 k a1 a2 true l0_0 s0_1) else (j0 k a1 a2 (decide (a2 > 64)) l0_0 s0_1)) = some (r1, r2, r3, r4) := h
 clear h
 have HC4 := am_ H
 clear H
 go_enter Try.func8, Try.ntmps8
 go_upto_region 1 with (fail)
 go_cut [18] (fun v18 wc => ∃ (kq : Nat) (x18_3 : Bool), v18 = .bool x18_3 ∧ Aside0 (j0 kq a1 a2 x18_3 l0_0 s0_1 = some (r1, r2, r3, r4)) ∧ Aside0 (kq ≤ k) ∧ Aside0 (Kd.R (Kd.int .u8) 5 wc w0.heap.size (fun k_ => (P0_0_ k_ ∨ w.heap.size ≤ k_)) u9000_ l0_0) ∧ Aside0 (IsS57 w0 wc g u9000_ s0_1) ∧ Aside0 (Kept w wc (fun k_ => (P0_0_ k_) ∨ k_ = g)) ∧ Aside0 (Below w0.heap.size w0 wc))
 case first =>
  have H := HC4.out
  clear HC4
  by_cases c5 : a2 < 0
  ·rw [if_pos c5] at H
   have c5b0 : decide (a2 < 0) = true := decide_eq_true c5
   clear c5
   (first | rw [c5b0] | (simp only [i64_w, i32_w]; rw [c5b0]) | skip)
   have H' := am_ H
   clear H
   go_wp2
   go_meet
   case rel => exact ⟨_, (true), (by first | rfl | (simp; done) | (simp [*]; done)), H', ⟨by first | omega | exact Nat.le_refl _⟩, ⟨aa_17⟩, ⟨aa_13⟩, ⟨aa_10⟩, ⟨aa_1⟩⟩
  ·rw [if_neg c5] at H
   have c5b0 : decide (a2 < 0) = false := decide_eq_false c5
   clear c5
   (first | rw [c5b0] | (simp only [i64_w, i32_w]; rw [c5b0]) | skip)
   have H' := am_ H
   clear H
   go_wp2
   go_meet
   case rel => exact ⟨_, (decide (a2 > 64)), (by first | rfl | (simp; done) | (simp [*]; done)), H', ⟨by first | omega | exact Nat.le_refl _⟩, ⟨aa_17⟩, ⟨aa_13⟩, ⟨aa_10⟩, ⟨aa_1⟩⟩
 case rest =>
  clear HC4
  try clear p2
  try clear c5
  try clear c5b0
  obtain ⟨kq, x18_3, rfl, HA, HJ3, HO_1000, HI0, HK, HB⟩ := hcut
  cases kq with
  | zero => exact absurd HA.out (by simp [j0])
  | succ kj3 =>
   have H := HA.out
   clear HA
   simp only [j0] at H
   by_cases c6 : x18_3 = true
   ·subst c6
    have H1 : (some (([] : List (S50)), 28, l0_0, s0_1)) = some (r1, r2, r3, r4) := by rw [if_pos rfl] at H; exact H
    clear H
    have H := H1
    clear H1
    simp only [Option.some.injEq, Prod.mk.injEq] at H
    obtain ⟨rfl, rfl, rfl, rfl⟩ := H
    go_wp2
    go_ret2
    exact ⟨_, _, by first | rfl | (simp [errW_none, errW_some] <;> rfl) | (simp [*, errW_none, errW_some] <;> rfl), by first | exact Kd.R_nil _ _ _ _ _ | exact Kd.N_nil _ _ _ _ _ | exact Kd.V_nil _ _ _ _ _ | exact Kd.Q_nil _ _ _ _ _ | exact Kd.S_nil _ _ _ _ _, aa_11, aa_13, aa_1, by repeat (first | (with_reducible first | exact HK.out | apply Kept.alloc | apply Kept.drewN | apply Kept.drew | refine Kept.setCell ?_ (.inl (.inr rfl)) _) | exact HK.out)⟩
   ·replace c6 := Bool.eq_false_iff.mpr c6
    subst c6
    have H1 : ((gangwayref9_Mem_Has.f l0_0 s0_1 a1 (wrap64 (8 * a2))).bind fun bt175 => (if bt175.1 = true then (gangwayref20_Pieces.l0 kj3 a1 a2 ([] : List (S50)) 0 0 bt175.2.1 bt175.2.2) else (some (([] : List (S50)), 21, bt175.2.1, bt175.2.2)))) = some (r1, r2, r3, r4) := by rw [if_neg (show ¬ (false = true) by decide)] at H; exact H
    clear H
    have H := H1
    clear H1
    replace H := bm_ H
    obtain ⟨⟨t175, t176, t179⟩, A70, H⟩ := H
    replace H : (if t175 = true then (gangwayref20_Pieces.l0 kj3 a1 a2 ([] : List (S50)) 0 0 t176 t179) else (some (([] : List (S50)), 21, t176, t179))) = some (r1, r2, r3, r4) := H
    have A7 := am_ A70
    clear A70
    by_cases c8 : t175 = true
    ·subst c8
     have H1 : (gangwayref20_Pieces.l0 kj3 a1 a2 ([] : List (S50)) 0 0 t176 t179) = some (r1, r2, r3, r4) := by rw [if_pos rfl] at H; exact H
     clear H
     have H := H1
     clear H1
     have H' := am_ H
     clear H
     go_wp2_with (first | ((with_reducible refine gate_callee (f := 29) rfl ?_); refine goesL_ (some 23) rfl rfl Try.func29 (by kernel_rfl) rfl #[.pointer (some ⟨g, 0, none⟩), .int .i64 a1, .int .i64 (wrap64 (8 * a2))] rfl aa_3 ?_; (with_reducible refine (gangwayref9_Mem_Has.calls g (fun k_ => some k_ = (u9000_ : Value).ownBlock) u9000_ l0_0 s0_1 a1 (wrap64 (8 * a2)) true t176 t179 w0 _ ?side1 ?side2 ?side3 A7.out).mono ?_); (case side1 => exact aa_13); (case side2 => exact aa_1); (case side3 => exact Kd.R_tight rfl HO_1000.out); rintro e w9 ⟨v177, rfl, ho0, hi, hb, hkp⟩; refine ⟨_, rfl, ?_⟩; have n0_ := am_ (hi); have n1_ := am_ (Kd.R_mono (ok' := fun k_ => (P0_0_ k_ ∨ w.heap.size ≤ k_)) ho0 (fun k_ hk_ => Or.elim hk_ (fun hs_ => (HO_1000.out.1 k_ (hs_).symm)) (fun hn_ => (.inr (Nat.le_trans aa_2 hn_))))); have n2_ := am_ (Kept.then_ (S := (fun k_ => (P0_0_ k_) ∨ k_ = g)) aa_10 hkp (fun k_ hs_ => Or.elim hs_ (fun hs_ => (fun e_ => Or.imp_left Or.inl ((HO_1000.out.1 k_ e_.symm))) hs_) (fun e_ => .inl (.inr e_)))); have n3_ := am_ (hb); clear HI0; clear HK; clear HB; clear HO_1000; have HI0 := n0_; have HO178 := n1_; have HK := n2_; have HB := n3_; clear n0_ n1_ n2_ n3_; (try clear hb); (try clear hkp); (try clear ho0)))
     go_loopg [8, 9, 10] kj3 (fun kq v8 v9 v10 w' => ∃ (x8_2 : List (S50)) (x9_2 : Int) (x10_2 : Int) (x1000_2 : List Int) (x1001_2 : Int) (u1000 : Value), v9 = .int .i64 x9_2 ∧ v10 = .int .i64 x10_2 ∧ Aside0 (gangwayref20_Pieces.l0 kq a1 a2 x8_2 x9_2 x10_2 x1000_2 x1001_2 = some (r1, r2, r3, r4)) ∧ Aside0 (kq ≤ kj3) ∧ Aside0 (Kd.R k50 50 w' w0.heap.size (fun k_ => (P0_0_ k_ ∨ w.heap.size ≤ k_)) v8 x8_2) ∧ Aside0 (Kd.R (Kd.int .u8) 5 w' w0.heap.size (fun k_ => (P0_0_ k_ ∨ w.heap.size ≤ k_)) u1000 x1000_2) ∧ Aside0 (IsS57 w0 w' g u1000 x1001_2) ∧ Aside0 (Kept w w' (fun k_ => (P0_0_ k_) ∨ k_ = g)) ∧ Aside0 (Below w0.heap.size w0 w'))
     case atStart => exact ⟨(([] : List (S50))), (0), (0), (t176), (t179), (v177), (by first | rfl | (simp; done) | (simp [*]; done)), (by first | rfl | (simp; done) | (simp [*]; done)), H', ⟨Nat.le_refl _⟩, ⟨by first | exact Kd.R_nil _ _ _ _ _ | exact Kd.N_nil _ _ _ _ _ | exact Kd.V_nil _ _ _ _ _ | exact Kd.Q_nil _ _ _ _ _ | exact Kd.S_nil _ _ _ _ _⟩, ⟨by (with_reducible repeat (first | apply Kd.R_alloc | apply Kd.R_drewN | apply Kd.R_drew)); exact HO178.out⟩, ⟨aa_13⟩, ⟨aa_10⟩, ⟨aa_1⟩⟩
     case round =>
      clear H'
      try clear c2
      try clear p2
      try clear c5
      try clear c5b0
      try clear c6
      try clear p6
      try clear c8
      try clear p2
      obtain ⟨x8_2, x9_2, x10_2, x1000_2, x1001_2, u1000, rfl, rfl, HA, HK2, HO_8, HO_1000, HI0, HK, HB⟩ := hrel
      cases gk with
      | zero => exact absurd HA.out (by simp [gangwayref20_Pieces.l0])
      | succ k2 =>
       have H := HA.out
       clear HA
       simp only [gangwayref20_Pieces.l0] at H
       by_cases c10 : x10_2 < a2
       ·rw [if_pos c10] at H
        have c10b0 : decide (x10_2 < a2) = true := decide_eq_true c10
        clear c10
        obtain ⟨ji11, hji11⟩ : ∃ j_ : Int, (wrap64 (a1 + (wrap64 (8 * x10_2)))) = j_ := ⟨_, rfl⟩
        replace H : (if 0 ≤ (ji11) then (if (ji11) ≤ (wrap64 ((ji11) + 8)) then (if (wrap64 ((ji11) + 8)) ≤ (x1000_2.length : Int) then ((some ((x1000_2.take ((wrap64 ((ji11) + 8)) : Int).toNat).drop ((ji11) : Int).toNat : List Int)).bind fun y180 => (if 4 ≤ (y180.length : Int) then ((gangwayref20_Number.f k2 (y180.take 4)).bind fun t188 => ((gangwayref20_Number.f k2 (y180.drop 4)).bind fun t193 => ((gangwayref9_Mem_Has.f x1000_2 x1001_2 (wrap64 (t188)) (wrap64 (t193))).bind fun bt195 => (if bt195.1 = true then (if x8_2.length < 8796093022208 then (gangwayref20_Pieces.l0 k2 a1 a2 (x8_2 ++ [(⟨wrap64 (t188), wrap64 (t193)⟩ : S50)]) (wrap64 (x9_2 + (wrap64 (t193)))) (wrap64 (x10_2 + 1)) bt195.2.1 bt195.2.2) else (none)) else (some (([] : List (S50)), 21, bt195.2.1, bt195.2.2)))))) else (none))) else (none)) else (none)) else (none)) = some (r1, r2, r3, r4) := by first | (rw [hji11] at H; exact H) | (simp only [hji11] at H ⊢; exact H)
        have hji11w : (IntKind.i64.wrap (a1 + (wrap64 (8 * x10_2)))) = ji11 := (i64_w _).trans hji11
        by_cases c12 : 0 ≤ (ji11)
        ·rw [if_pos c12] at H
         have c12b0 := eq_true c12
         have c12b1 : decide (0 ≤ (ji11)) = true := decide_eq_true c12
         clear c12
         by_cases c13 : (ji11) ≤ (wrap64 ((ji11) + 8))
         ·rw [if_pos c13] at H
          have c13b0 := eq_true c13
          have c13b1 : decide ((ji11) ≤ (wrap64 ((ji11) + 8))) = true := decide_eq_true c13
          by_cases c14 : (wrap64 ((ji11) + 8)) ≤ (x1000_2.length : Int)
          ·rw [if_pos c14] at H
           have c14b0 := eq_true c14
           have c14b1 : decide ((wrap64 ((ji11) + 8)) ≤ (x1000_2.length : Int)) = true := decide_eq_true c14
           obtain ⟨y180, hy180⟩ : ∃ y_ : List Int, y_ = ((x1000_2.take ((wrap64 ((ji11) + 8)) : Int).toNat).drop ((ji11) : Int).toNat) := ⟨_, rfl⟩
           replace H : (if 4 ≤ (y180.length : Int) then ((gangwayref20_Number.f k2 (y180.take 4)).bind fun t188 => ((gangwayref20_Number.f k2 (y180.drop 4)).bind fun t193 => ((gangwayref9_Mem_Has.f x1000_2 x1001_2 (wrap64 (t188)) (wrap64 (t193))).bind fun bt195 => (if bt195.1 = true then (if x8_2.length < 8796093022208 then (gangwayref20_Pieces.l0 k2 a1 a2 (x8_2 ++ [(⟨wrap64 (t188), wrap64 (t193)⟩ : S50)]) (wrap64 (x9_2 + (wrap64 (t193)))) (wrap64 (x10_2 + 1)) bt195.2.1 bt195.2.2) else (none)) else (some (([] : List (S50)), 21, bt195.2.1, bt195.2.2)))))) else (none)) = some (r1, r2, r3, r4) := by first | (rw [hy180]; with_reducible exact H) | (have H2_ := (Option.bind_some _ _).symm.trans H; rw [hy180]; with_reducible exact H2_) | (have H2_ := (Option.bind_some _ _).symm.trans H; with_reducible exact H2_) | with_reducible exact H | (rw [hy180]; exact H) | exact H
           have Ny180 := am_ hy180
           clear hy180
           by_cases c15 : 4 ≤ (y180.length : Int)
           ·rw [if_pos c15] at H
            have c15b0 := eq_true c15
            have c15b1 : decide (4 ≤ (y180.length : Int)) = true := decide_eq_true c15
            clear c15
            obtain ⟨y184, hy184⟩ : ∃ y_ : List Int, y_ = (y180.take 4) := ⟨_, rfl⟩
            replace H : ((gangwayref20_Number.f k2 y184).bind fun t188 => ((gangwayref20_Number.f k2 (y180.drop 4)).bind fun t193 => ((gangwayref9_Mem_Has.f x1000_2 x1001_2 (wrap64 (t188)) (wrap64 (t193))).bind fun bt195 => (if bt195.1 = true then (if x8_2.length < 8796093022208 then (gangwayref20_Pieces.l0 k2 a1 a2 (x8_2 ++ [(⟨wrap64 (t188), wrap64 (t193)⟩ : S50)]) (wrap64 (x9_2 + (wrap64 (t193)))) (wrap64 (x10_2 + 1)) bt195.2.1 bt195.2.2) else (none)) else (some (([] : List (S50)), 21, bt195.2.1, bt195.2.2)))))) = some (r1, r2, r3, r4) := by first | (rw [hy184]; with_reducible exact H) | (have H2_ := (Option.bind_some _ _).symm.trans H; rw [hy184]; with_reducible exact H2_) | (have H2_ := (Option.bind_some _ _).symm.trans H; with_reducible exact H2_) | with_reducible exact H | (rw [hy184]; exact H) | exact H
            have Ny184 := am_ hy184
            clear hy184
            replace H := bm_ H
            obtain ⟨t188, A160, H⟩ := H
            replace H : ((gangwayref20_Number.f k2 (y180.drop 4)).bind fun t193 => ((gangwayref9_Mem_Has.f x1000_2 x1001_2 (wrap64 (t188)) (wrap64 (t193))).bind fun bt195 => (if bt195.1 = true then (if x8_2.length < 8796093022208 then (gangwayref20_Pieces.l0 k2 a1 a2 (x8_2 ++ [(⟨wrap64 (t188), wrap64 (t193)⟩ : S50)]) (wrap64 (x9_2 + (wrap64 (t193)))) (wrap64 (x10_2 + 1)) bt195.2.1 bt195.2.2) else (none)) else (some (([] : List (S50)), 21, bt195.2.1, bt195.2.2))))) = some (r1, r2, r3, r4) := H
            have A16 := am_ A160
            clear A160
            have c17b0 := eq_true (of_decide_eq_true aa_16 : 4 ≤ (y180.length : Int))
            obtain ⟨y189, hy189⟩ : ∃ y_ : List Int, y_ = (y180.drop 4) := ⟨_, rfl⟩
            replace H : ((gangwayref20_Number.f k2 y189).bind fun t193 => ((gangwayref9_Mem_Has.f x1000_2 x1001_2 (wrap64 (t188)) (wrap64 (t193))).bind fun bt195 => (if bt195.1 = true then (if x8_2.length < 8796093022208 then (gangwayref20_Pieces.l0 k2 a1 a2 (x8_2 ++ [(⟨wrap64 (t188), wrap64 (t193)⟩ : S50)]) (wrap64 (x9_2 + (wrap64 (t193)))) (wrap64 (x10_2 + 1)) bt195.2.1 bt195.2.2) else (none)) else (some (([] : List (S50)), 21, bt195.2.1, bt195.2.2))))) = some (r1, r2, r3, r4) := by first | (rw [hy189]; with_reducible exact H) | (have H2_ := (Option.bind_some _ _).symm.trans H; rw [hy189]; with_reducible exact H2_) | (have H2_ := (Option.bind_some _ _).symm.trans H; with_reducible exact H2_) | with_reducible exact H | (rw [hy189]; exact H) | exact H
            have Ny189 := am_ hy189
            clear hy189
            replace H := bm_ H
            obtain ⟨t193, A180, H⟩ := H
            replace H : ((gangwayref9_Mem_Has.f x1000_2 x1001_2 (wrap64 (t188)) (wrap64 (t193))).bind fun bt195 => (if bt195.1 = true then (if x8_2.length < 8796093022208 then (gangwayref20_Pieces.l0 k2 a1 a2 (x8_2 ++ [(⟨wrap64 (t188), wrap64 (t193)⟩ : S50)]) (wrap64 (x9_2 + (wrap64 (t193)))) (wrap64 (x10_2 + 1)) bt195.2.1 bt195.2.2) else (none)) else (some (([] : List (S50)), 21, bt195.2.1, bt195.2.2)))) = some (r1, r2, r3, r4) := H
            have A18 := am_ A180
            clear A180
            replace H := bm_ H
            obtain ⟨⟨t195, t196, t199⟩, A190, H⟩ := H
            replace H : (if t195 = true then (if x8_2.length < 8796093022208 then (gangwayref20_Pieces.l0 k2 a1 a2 (x8_2 ++ [(⟨wrap64 (t188), wrap64 (t193)⟩ : S50)]) (wrap64 (x9_2 + (wrap64 (t193)))) (wrap64 (x10_2 + 1)) t196 t199) else (none)) else (some (([] : List (S50)), 21, t196, t199))) = some (r1, r2, r3, r4) := H
            have A19 := am_ A190
            clear A190
            by_cases c20 : t195 = true
            ·subst c20
             have H1 : (if x8_2.length < 8796093022208 then (gangwayref20_Pieces.l0 k2 a1 a2 (x8_2 ++ [(⟨wrap64 (t188), wrap64 (t193)⟩ : S50)]) (wrap64 (x9_2 + (wrap64 (t193)))) (wrap64 (x10_2 + 1)) t196 t199) else (none)) = some (r1, r2, r3, r4) := by rw [if_pos rfl] at H; exact H
             clear H
             have H := H1
             clear H1
             by_cases c21 : x8_2.length < 8796093022208
             ·rw [if_pos c21] at H
              have LMc21 := am_ c21
              clear c21
              obtain ⟨y200, hy200⟩ : ∃ y_ : List (S50), y_ = (x8_2 ++ [(⟨wrap64 (t188), wrap64 (t193)⟩ : S50)]) := ⟨_, rfl⟩
              replace H : (gangwayref20_Pieces.l0 k2 a1 a2 y200 (wrap64 (x9_2 + (wrap64 (t193)))) (wrap64 (x10_2 + 1)) t196 t199) = some (r1, r2, r3, r4) := by first | (rw [hy200]; with_reducible exact H) | (have H2_ := (Option.bind_some _ _).symm.trans H; rw [hy200]; with_reducible exact H2_) | (have H2_ := (Option.bind_some _ _).symm.trans H; with_reducible exact H2_) | with_reducible exact H | (rw [hy200]; exact H) | exact H
              have Ny200 := am_ hy200
              clear hy200
              have H' := am_ H
              clear H
              obtain ⟨HGz22, hgz22⟩ := HI0.out
              have hcz22_0 := cellS57_0 HGz22
              have hcz22_1 := cellS57_1 HGz22
              have hfz22_0 := blk_frozen HGz22 0
              have hfz22_1 := blk_frozen HGz22 1
              clear HGz22 hgz22
              obtain ⟨Ao24, co24, eo24⟩ := Kd.R_slice HO_1000.out
              subst eo24
              have q23 : ((wrap64 ((ji11) + 8)) : Int) ≤ ((x1000_2.length : Int) : Int) := of_decide_eq_true aa_16
              obtain ⟨i023, hi023, _, hsz23, _⟩ := info_parts info5
              have hroom23 : x1000_2.length ≤ co24 := (Kd.R_reads' HO_1000.out).2.1
              have hC23 : Kd.C (Kd.int .u8) _ Ao24 x1000_2.length x1000_2 := (Kd.R_reads' HO_1000.out).2.2
              have ql23 : ((ji11) : Int) ≤ ((wrap64 ((ji11) + 8)) : Int) := of_decide_eq_true aa_16
              have q023 : (0 : Int) ≤ ((ji11) : Int) := of_decide_eq_true aa_16
              have hcut23 := cut_mid (P := Try.prog) 23 5 .i64 .i64 Try.underlying23 hi023 1 hsz23 Ao24 x1000_2.length co24 (ji11) (wrap64 ((ji11) + 8)) q023 ql23 q23 hroom23
              have hr23 := Kd.C_mid (lo := ((ji11) : Int).toNat) (hi := ((wrap64 ((ji11) + 8)) : Int).toNat) (c := co24) hC23 (by omega) (by omega) hroom23
              obtain ⟨A23, hA23⟩ : ∃ A1, A1 = (if co24 = ((ji11) : Int).toNat then Ao24 else (Ao24 : Option Addr).map (·.add (((ji11) : Int).toNat * 1))) := ⟨_, rfl⟩
              obtain ⟨c23, hc23⟩ : ∃ c1, c1 = co24 - ((ji11) : Int).toNat := ⟨_, rfl⟩
              have hy23 : y180.length = ((wrap64 ((ji11) + 8)) : Int).toNat - ((ji11) : Int).toNat := (by rw [Ny180.out, List.length_drop, List.length_take] <;> omega)
              rw [show ((x1000_2).take ((wrap64 ((ji11) + 8)) : Int).toNat).drop ((ji11) : Int).toNat = y180 from Ny180.out.symm] at hr23
              replace hr23 : Kd.C (Kd.int .u8) _ A23 y180.length y180 := (by rw [hA23]; exact hr23)
              rw [← hy23, ← hA23, ← hc23] at hcut23
              have HR183 := am_ hr23
              have HC183 := am_ (show y180.length ≤ c23 from by rw [hy23, hc23]; exact Nat.sub_le_sub_right (Nat.le_trans (by omega) hroom23) _)
              clear hr23 hC23 hroom23 hi023 hsz23 hc23
              have KY23 := am_ hy23
              have KA23 := am_ hA23
              clear hy23 hA23
              have KL23 := am_ (show ((wrap64 ((ji11) + 8)) : Int).toNat ≤ x1000_2.length from by omega)
              have KM23 := am_ (show ((ji11) : Int).toNat ≤ ((wrap64 ((ji11) + 8)) : Int).toNat from by omega)
              replace q23 := eq_true q23
              try go_wp2
              have n0_ := am_ (Kd.R_drew HO_8.out)
              have n1_ := am_ (Kd.R_drew HO_1000.out)
              have n2_ := am_ (Kd.C_drew HR183.out)
              have n3_ := am_ (IsS57.drew HI0.out)
              have n4_ := am_ (Kept.drew HK.out)
              have n5_ := am_ (below_drew1 HB.out)
              clear HO_8
              clear HO_1000
              clear HR183
              clear HI0
              clear HK
              clear HB
              have HO_8 := n0_
              have HO_1000 := n1_
              have HR183 := n2_
              have HI0 := n3_
              have HK := n4_
              have HB := n5_
              clear n0_ n1_ n2_ n3_ n4_ n5_
              have q26 : (4 : Int) ≤ ((y180.length : Int) : Int) := of_decide_eq_true aa_16
              obtain ⟨i026, hi026, _, hsz26, _⟩ := info_parts info5
              have hroom26 : y180.length ≤ c23 := HC183.out
              have hC26 : Kd.C (Kd.int .u8) _ A23 y180.length y180 := aa_6
              have hcut26 := cut_to (P := Try.prog) 23 5 .i64 Try.underlying23 hi026 A23 y180.length c23 4 (by omega) q26 hroom26
              have hr26 := Kd.C_take (m := 4) hC26 (by omega)
              have hy26 : y184.length = (4 : Int).toNat := (by rw [Ny184.out, List.length_take]; omega)
              rw [← Ny184.out] at hr26
              rw [← hy26] at hcut26
              have HR187 := am_ hr26
              have HC187 := am_ (show y184.length ≤ c23 from by omega)
              clear hr26 hC26 hroom26 hi026 hsz26
              have KY26 := am_ hy26
              clear hy26
              replace q26 := eq_true q26
              have q27 : (4 : Int) ≤ ((y180.length : Int) : Int) := of_decide_eq_true aa_16
              obtain ⟨i027, hi027, _, hsz27, _⟩ := info_parts info5
              have hroom27 : y180.length ≤ c23 := HC183.out
              have hC27 : Kd.C (Kd.int .u8) _ A23 y180.length y180 := aa_6
              have hcut27 := cut_from (P := Try.prog) 23 5 .i64 Try.underlying23 hi027 1 hsz27 A23 y180.length c23 4 (by omega) q27
              have hr27 := Kd.C_drop (m := (4 : Int).toNat) (c := c23) hC27 (by omega) hroom27
              obtain ⟨A27, hA27⟩ : ∃ A1, A1 = (if c23 = (4 : Int).toNat then A23 else (A23 : Option Addr).map (·.add ((4 : Int).toNat * 1))) := ⟨_, rfl⟩
              obtain ⟨c27, hc27⟩ : ∃ c1, c1 = c23 - (4 : Int).toNat := ⟨_, rfl⟩
              have hy27 : y189.length = y180.length - (4 : Int).toNat := (by rw [Ny189.out, List.length_drop] <;> omega)
              rw [show (y180).drop (4 : Int).toNat = y189 from Ny189.out.symm] at hr27
              replace hr27 : Kd.C (Kd.int .u8) _ A27 y189.length y189 := (by rw [hA27]; exact hr27)
              rw [← hy27, ← hA27, ← hc27] at hcut27
              have HR192 := am_ hr27
              have HC192 := am_ (show y189.length ≤ c27 from by rw [hy27, hc27]; exact Nat.sub_le_sub_right hroom27 _)
              clear hr27 hC27 hroom27 hi027 hsz27 hc27
              have KY27 := am_ hy27
              have KA27 := am_ hA27
              clear hy27 hA27
              replace q27 := eq_true q27
              refine start_ (n := 11) (S := fun w' => True) (ds := []) bb16_ (by kernel_rfl) rfl rfl trivial (fun hHeld => ?_); refine with_tabW gangwayref20_Pieces.tab11 gangwayref20_Pieces.bits11 (fun HT_ HW_ => ?_)
              generalize wr.drew = w25 at HO_8 HO_1000 HR183 HI0 HK HB HR187 HR192 hHeld ⊢
              refine pure_ (i := 0) (N := some 44) (v := ?_) (a' := ?_) bb15_ rfl rfl (any_of HT_.out (by kernel_rfl)) (fun _ _ _ h => h) (Or.inl ⟨by rfl, ?_⟩) ?_ ?_
              rotate_left; · intro w'; go_simp; with_reducible rfl
              rotate_left; · simp only [Act.put, e1, e2, e3, i64_w, i32_w]; rfl
              refine pure_ (i := 1) (N := some 45) (v := ?_) (a' := ?_) bb14_ rfl rfl (any_of HT_.out (by kernel_rfl)) (fun _ _ _ h => h) (Or.inl ⟨by rfl, ?_⟩) ?_ ?_
              rotate_left; · intro w'; go_simp; with_reducible rfl
              rotate_left; · simp only [Act.put, e1, e2, e3, i64_w, i32_w]; rfl
              refine pure_ (i := 4) (N := some 48) (v := ?_) (a' := ?_) bb13_ rfl rfl (any_of HT_.out (by kernel_rfl)) (fun _ _ _ h => h) (Or.inl ⟨by rfl, ?_⟩) ?_ ?_
              rotate_left; · intro w'; go_simp; with_reducible rfl
              rotate_left; · simp only [Act.put, e1, e2, e3, i64_w, i32_w]; rfl
              refine pure_ (i := 5) (N := some 49) (v := ?_) (a' := ?_) bb12_ rfl rfl (any_of HT_.out (by kernel_rfl)) (fun _ _ _ h => h) (Or.inl ⟨by rfl, ?_⟩) ?_ ?_
              rotate_left; · intro w'; go_simp; with_reducible rfl
              rotate_left; · simp only [Act.put, e1, e2, e3, i64_w, i32_w]; rfl
              refine join_ (σ := Nat) 1 bb1_ (fun s_ => [(46, .int .u64 t188), (50, .int .u64 t193), (12, .pointer (some ⟨s_, 0, none⟩)), (47, .int .i64 (wrap64 (t188))), (51, .int .i64 (wrap64 (t193))), (52, .agg #[.int .i64 (wrap64 (t188)), .int .i64 (wrap64 (t193))])]) (fun s_ w' => (Kd.R (Kd.int .u8) 5 w' w0.heap.size (fun k_ => (P0_0_ k_ ∨ w.heap.size ≤ k_)) (.slice Ao24 x1000_2.length co24) x1000_2) ∧ (Kd.R k50 50 w' w0.heap.size (fun k_ => (P0_0_ k_ ∨ w.heap.size ≤ k_) ∧ k_ ≠ s_) u8 x8_2) ∧ (w'.heap[s_]? = some (.cells #[.int .i64 0, .int .i64 0] 50 (0, 0))) ∧ (w.heap.size ≤ s_) ∧ (w0.heap.size ≤ s_) ∧ (g ≠ s_) ∧ (s_ ≠ g) ∧ (IsS57 w0 w' g (.slice Ao24 x1000_2.length co24) x1001_2) ∧ (Kept w w' (fun k_ => (P0_0_ k_) ∨ k_ = g)) ∧ (Below w0.heap.size w0 w')) ?_ ?_
              rotate_left
              ·intro hCont
               refine two_ (i := 2) (j := 9) (Ni := some 46) (Nj := some 12) bb11_ bb10_ rfl rfl rfl rfl (two_of HT_.out (by kernel_rfl)) (by decide) (by decide) (fun K hK => ?_) (fun K hK => ?_)
               ·skip
                refine goes_ Try.func30 (by kernel_rfl) rfl #[.slice A23 y184.length c23] (by rfl) rfl rfl aa_3 ?_
                with_reducible refine (gangwayref20_Number.calls k2 _ _ y184 t188 _ ?side1 ?side2 A16.out).mono ?_
                (case side1 => exact aa_18)
                (case side2 => exact HC187.out)
                rintro e w' ⟨rfl, ⟨nd, rfl⟩⟩
                refine ⟨_, rfl, ?_⟩
                refine hK.out _ _ trivial (fun hHeld => ?_)
                clear hK K
                refine norm_ (a' := ?_) ?_ ?_
                rotate_left
                ·show Act.put _ (some 46) _ = _
                 simp only [Act.put, e1, e2, e3, i64_w, i32_w]
                 rfl
                refine pure_ (i := 3) (N := some 47) (v := ?_) (a' := ?_) bb9_ rfl rfl (any_of HT_.out (by kernel_rfl)) (fun _ _ _ h => h) (Or.inl ⟨by rfl, ?_⟩) ?_ ?_
                rotate_left; · intro w'; go_simp; with_reducible rfl
                rotate_left; · simp only [Act.put, e1, e2, e3, i64_w, i32_w]; rfl
                refine two_ (i := 6) (j := 9) (Ni := some 50) (Nj := some 12) bb7_ bb6_ rfl rfl rfl rfl (two_of HT_.out (by kernel_rfl)) (by decide) (by decide) (fun K hK => ?_) (fun K hK => ?_)
                ·skip
                 refine goes_ Try.func30 (by kernel_rfl) rfl #[.slice A27 y189.length c27] (by rfl) rfl rfl aa_3 ?_
                 with_reducible refine (gangwayref20_Number.calls k2 _ _ y189 t193 _ ?side1 ?side2 A18.out).mono ?_
                 (case side1 => exact aa_19)
                 (case side2 => exact HC192.out)
                 rintro e w' ⟨rfl, ⟨nd, rfl⟩⟩
                 refine ⟨_, rfl, ?_⟩
                 refine hK.out _ _ trivial (fun hHeld => ?_)
                 clear hK K
                 refine norm_ (a' := ?_) ?_ ?_
                 rotate_left
                 ·show Act.put _ (some 50) _ = _
                  simp only [Act.put, e1, e2, e3, i64_w, i32_w]
                  rfl
                 refine pure_ (i := 7) (N := some 51) (v := ?_) (a' := ?_) bb5_ rfl rfl (any_of HT_.out (by kernel_rfl)) (fun _ _ _ h => h) (Or.inl ⟨by rfl, ?_⟩) ?_ ?_
                 rotate_left; · intro w'; go_simp; with_reducible rfl
                 rotate_left; · simp only [Act.put, e1, e2, e3, i64_w, i32_w]; rfl
                 refine pure_ (i := 8) (N := some 52) (v := ?_) (a' := ?_) bb3_ rfl rfl (any_of HT_.out (by kernel_rfl)) (fun _ _ _ h => h) (Or.inl ⟨by rfl, ?_⟩) ?_ ?_
                 rotate_left; · intro w'; go_simp; with_reducible rfl
                 rotate_left; · simp only [Act.put, e1, e2, e3, i64_w, i32_w]; rfl
                 refine one_ (i := 9) (N := some 12) bb1_ rfl rfl (one_of HT_.out (by kernel_rfl)) (by decide) (fun K hK => ?_)
                 refine box_step ?hg (N := 12) ?hd (cs := #[.int .i64 0, .int .i64 0]) (t := 50) ?hr ?_; (case hd => rfl); (case hg => rfl); (case hr => first | (go_simp; done) | (go_simp; rfl))
                 intro gb194 hg w28 hbox hb
                 have n0_ := am_ (Kd.R_below (Kd.R_elderB aa_8 gb194 (Nat.le_of_eq hg.symm)) hb)
                 have n1_ := am_ (Kd.R_below aa_11 hb)
                 have n2_ := am_ (IsS57.below aa_13 hb)
                 have n3_ := am_ (Kd.C_below aa_6 hb)
                 have n4_ := am_ (Kd.C_below aa_5 hb)
                 have n5_ := am_ (Kd.C_below aa_0 hb)
                 have n6_ := am_ (Kept.below (S := (fun k_ => (P0_0_ k_) ∨ k_ = g)) aa_10 hb)
                 have n7_ := am_ (below_step aa_1 hb)
                 have n8_ := am_ (hbox)
                 have n9_ := am_ ((by rw [hg]; exact aa_2 : w.heap.size ≤ gb194))
                 have n10_ := am_ ((by rw [hg]; exact (below_size aa_1) : w0.heap.size ≤ gb194))
                 have n11_ := am_ ((by rw [hg]; exact Nat.ne_of_lt (IsS57.lt (show IsS57 w0 _ g (.slice Ao24 x1000_2.length co24) x1001_2 from by repeat (first | (with_reducible first | exact HI0.out | apply IsS57.alloc | apply IsS57.drewN | apply IsS57.drew | apply IsS57.set_0 | apply IsS57.set_1) | exact HI0.out))) : g ≠ gb194))
                 have n12_ := am_ ((by rw [hg]; exact Nat.ne_of_gt (IsS57.lt (show IsS57 w0 _ g (.slice Ao24 x1000_2.length co24) x1001_2 from by repeat (first | (with_reducible first | exact HI0.out | apply IsS57.alloc | apply IsS57.drewN | apply IsS57.drew | apply IsS57.set_0 | apply IsS57.set_1) | exact HI0.out))) : gb194 ≠ g))
                 clear HO_8
                 clear HO_1000
                 clear HI0
                 clear HR183
                 clear HR187
                 clear HR192
                 clear HK
                 clear HB
                 have HO_8 := n0_
                 have HO_1000 := n1_
                 have HI0 := n2_
                 have HR183 := n3_
                 have HR187 := n4_
                 have HR192 := n5_
                 have HK := n6_
                 have HB := n7_
                 have BK194 := n8_
                 have GW194 := n9_
                 have GE194 := n10_
                 have NB0_194 := n11_
                 have NB194_0 := n12_
                 clear n0_ n1_ n2_ n3_ n4_ n5_ n6_ n7_ n8_ n9_ n10_ n11_ n12_
                 clear hb hbox hg
                 refine hK.out _ _ trivial (fun hHeld => ?_)
                 clear hK K
                 refine norm_ (a' := ?_) ?_ ?_
                 rotate_left
                 ·show Act.put _ (some 12) _ = _
                  simp only [Act.put, e1, e2, e3, i64_w, i32_w]
                  rfl
                 exact norm_ aa_15 (hCont (gb194) _ ⟨aa_11, aa_8, aa_12, GW194.out, GE194.out, NB0_194.out, NB194_0.out, aa_9, aa_4, aa_7⟩)
                ·skip
                 refine box_step ?hg (N := 12) ?hd (cs := #[.int .i64 0, .int .i64 0]) (t := 50) ?hr ?_; (case hd => rfl); (case hg => rfl); (case hr => first | (go_simp; done) | (go_simp; rfl))
                 intro gb194 hg w28 hbox hb
                 have n0_ := am_ (Kd.R_below (Kd.R_elderB aa_8 gb194 (Nat.le_of_eq hg.symm)) hb)
                 have n1_ := am_ (Kd.R_below aa_11 hb)
                 have n2_ := am_ (IsS57.below aa_13 hb)
                 have n3_ := am_ (Kd.C_below aa_6 hb)
                 have n4_ := am_ (Kd.C_below aa_5 hb)
                 have n5_ := am_ (Kd.C_below aa_0 hb)
                 have n6_ := am_ (Kept.below (S := (fun k_ => (P0_0_ k_) ∨ k_ = g)) aa_10 hb)
                 have n7_ := am_ (below_step aa_1 hb)
                 have n8_ := am_ (hbox)
                 have n9_ := am_ ((by rw [hg]; exact aa_2 : w.heap.size ≤ gb194))
                 have n10_ := am_ ((by rw [hg]; exact (below_size aa_1) : w0.heap.size ≤ gb194))
                 have n11_ := am_ ((by rw [hg]; exact Nat.ne_of_lt (IsS57.lt (show IsS57 w0 _ g (.slice Ao24 x1000_2.length co24) x1001_2 from by repeat (first | (with_reducible first | exact HI0.out | apply IsS57.alloc | apply IsS57.drewN | apply IsS57.drew | apply IsS57.set_0 | apply IsS57.set_1) | exact HI0.out))) : g ≠ gb194))
                 have n12_ := am_ ((by rw [hg]; exact Nat.ne_of_gt (IsS57.lt (show IsS57 w0 _ g (.slice Ao24 x1000_2.length co24) x1001_2 from by repeat (first | (with_reducible first | exact HI0.out | apply IsS57.alloc | apply IsS57.drewN | apply IsS57.drew | apply IsS57.set_0 | apply IsS57.set_1) | exact HI0.out))) : gb194 ≠ g))
                 clear HO_8
                 clear HO_1000
                 clear HI0
                 clear HR183
                 clear HR187
                 clear HR192
                 clear HK
                 clear HB
                 have HO_8 := n0_
                 have HO_1000 := n1_
                 have HI0 := n2_
                 have HR183 := n3_
                 have HR187 := n4_
                 have HR192 := n5_
                 have HK := n6_
                 have HB := n7_
                 have BK194 := n8_
                 have GW194 := n9_
                 have GE194 := n10_
                 have NB0_194 := n11_
                 have NB194_0 := n12_
                 clear n0_ n1_ n2_ n3_ n4_ n5_ n6_ n7_ n8_ n9_ n10_ n11_ n12_
                 clear hb hbox hg
                 refine hK.out _ _ trivial (fun hHeld => ?_)
                 clear hK K
                 refine norm_ (a' := ?_) ?_ ?_
                 rotate_left
                 ·show Act.put _ (some 12) _ = _
                  simp only [Act.put, e1, e2, e3, i64_w, i32_w]
                  rfl
                 refine one_ (i := 6) (N := some 50) bb4_ rfl rfl (one_of HT_.out (by kernel_rfl)) (by decide) (fun K hK => ?_)
                 refine goes_ Try.func30 (by kernel_rfl) rfl #[.slice A27 y189.length c27] (by rfl) rfl rfl aa_3 ?_
                 with_reducible refine (gangwayref20_Number.calls k2 _ _ y189 t193 _ ?side1 ?side2 A18.out).mono ?_
                 (case side1 => exact aa_19)
                 (case side2 => exact HC192.out)
                 rintro e w' ⟨rfl, ⟨nd, rfl⟩⟩
                 refine ⟨_, rfl, ?_⟩
                 refine hK.out _ _ trivial (fun hHeld => ?_)
                 clear hK K
                 refine norm_ (a' := ?_) ?_ ?_
                 rotate_left
                 ·show Act.put _ (some 50) _ = _
                  simp only [Act.put, e1, e2, e3, i64_w, i32_w]
                  rfl
                 refine pure_ (i := 7) (N := some 51) (v := ?_) (a' := ?_) bb2_ rfl rfl (any_of HT_.out (by kernel_rfl)) (fun _ _ _ h => h) (Or.inl ⟨by rfl, ?_⟩) ?_ ?_
                 rotate_left; · intro w'; go_simp; with_reducible rfl
                 rotate_left; · simp only [Act.put, e1, e2, e3, i64_w, i32_w]; rfl
                 refine pure_ (i := 8) (N := some 52) (v := ?_) (a' := ?_) bb1_ rfl rfl (any_of HT_.out (by kernel_rfl)) (fun _ _ _ h => h) (Or.inl ⟨by rfl, ?_⟩) ?_ ?_
                 rotate_left; · intro w'; go_simp; with_reducible rfl
                 rotate_left; · simp only [Act.put, e1, e2, e3, i64_w, i32_w]; rfl
                 exact norm_ aa_15 (hCont (gb194) _ ⟨aa_11, aa_8, aa_12, GW194.out, GE194.out, NB0_194.out, NB194_0.out, aa_9, aa_4, aa_7⟩)
               ·skip
                refine box_step ?hg (N := 12) ?hd (cs := #[.int .i64 0, .int .i64 0]) (t := 50) ?hr ?_; (case hd => rfl); (case hg => rfl); (case hr => first | (go_simp; done) | (go_simp; rfl))
                intro gb194 hg w28 hbox hb
                have n0_ := am_ (Kd.R_below (Kd.R_elderB aa_8 gb194 (Nat.le_of_eq hg.symm)) hb)
                have n1_ := am_ (Kd.R_below aa_11 hb)
                have n2_ := am_ (IsS57.below aa_13 hb)
                have n3_ := am_ (Kd.C_below aa_6 hb)
                have n4_ := am_ (Kd.C_below aa_5 hb)
                have n5_ := am_ (Kd.C_below aa_0 hb)
                have n6_ := am_ (Kept.below (S := (fun k_ => (P0_0_ k_) ∨ k_ = g)) aa_10 hb)
                have n7_ := am_ (below_step aa_1 hb)
                have n8_ := am_ (hbox)
                have n9_ := am_ ((by rw [hg]; exact aa_2 : w.heap.size ≤ gb194))
                have n10_ := am_ ((by rw [hg]; exact (below_size aa_1) : w0.heap.size ≤ gb194))
                have n11_ := am_ ((by rw [hg]; exact Nat.ne_of_lt (IsS57.lt (show IsS57 w0 _ g (.slice Ao24 x1000_2.length co24) x1001_2 from by repeat (first | (with_reducible first | exact HI0.out | apply IsS57.alloc | apply IsS57.drewN | apply IsS57.drew | apply IsS57.set_0 | apply IsS57.set_1) | exact HI0.out))) : g ≠ gb194))
                have n12_ := am_ ((by rw [hg]; exact Nat.ne_of_gt (IsS57.lt (show IsS57 w0 _ g (.slice Ao24 x1000_2.length co24) x1001_2 from by repeat (first | (with_reducible first | exact HI0.out | apply IsS57.alloc | apply IsS57.drewN | apply IsS57.drew | apply IsS57.set_0 | apply IsS57.set_1) | exact HI0.out))) : gb194 ≠ g))
                clear HO_8
                clear HO_1000
                clear HI0
                clear HR183
                clear HR187
                clear HR192
                clear HK
                clear HB
                have HO_8 := n0_
                have HO_1000 := n1_
                have HI0 := n2_
                have HR183 := n3_
                have HR187 := n4_
                have HR192 := n5_
                have HK := n6_
                have HB := n7_
                have BK194 := n8_
                have GW194 := n9_
                have GE194 := n10_
                have NB0_194 := n11_
                have NB194_0 := n12_
                clear n0_ n1_ n2_ n3_ n4_ n5_ n6_ n7_ n8_ n9_ n10_ n11_ n12_
                clear hb hbox hg
                refine hK.out _ _ trivial (fun hHeld => ?_)
                clear hK K
                refine norm_ (a' := ?_) ?_ ?_
                rotate_left
                ·show Act.put _ (some 12) _ = _
                 simp only [Act.put, e1, e2, e3, i64_w, i32_w]
                 rfl
                refine one_ (i := 2) (N := some 46) bb8_ rfl rfl (one_of HT_.out (by kernel_rfl)) (by decide) (fun K hK => ?_)
                refine goes_ Try.func30 (by kernel_rfl) rfl #[.slice A23 y184.length c23] (by rfl) rfl rfl aa_3 ?_
                with_reducible refine (gangwayref20_Number.calls k2 _ _ y184 t188 _ ?side1 ?side2 A16.out).mono ?_
                (case side1 => exact aa_18)
                (case side2 => exact HC187.out)
                rintro e w' ⟨rfl, ⟨nd, rfl⟩⟩
                refine ⟨_, rfl, ?_⟩
                refine hK.out _ _ trivial (fun hHeld => ?_)
                clear hK K
                refine norm_ (a' := ?_) ?_ ?_
                rotate_left
                ·show Act.put _ (some 46) _ = _
                 simp only [Act.put, e1, e2, e3, i64_w, i32_w]
                 rfl
                refine pure_ (i := 3) (N := some 47) (v := ?_) (a' := ?_) bb6_ rfl rfl (any_of HT_.out (by kernel_rfl)) (fun _ _ _ h => h) (Or.inl ⟨by rfl, ?_⟩) ?_ ?_
                rotate_left; · intro w'; go_simp; with_reducible rfl
                rotate_left; · simp only [Act.put, e1, e2, e3, i64_w, i32_w]; rfl
                refine one_ (i := 6) (N := some 50) bb4_ rfl rfl (one_of HT_.out (by kernel_rfl)) (by decide) (fun K hK => ?_)
                refine goes_ Try.func30 (by kernel_rfl) rfl #[.slice A27 y189.length c27] (by rfl) rfl rfl aa_3 ?_
                with_reducible refine (gangwayref20_Number.calls k2 _ _ y189 t193 _ ?side1 ?side2 A18.out).mono ?_
                (case side1 => exact aa_19)
                (case side2 => exact HC192.out)
                rintro e w' ⟨rfl, ⟨nd, rfl⟩⟩
                refine ⟨_, rfl, ?_⟩
                refine hK.out _ _ trivial (fun hHeld => ?_)
                clear hK K
                refine norm_ (a' := ?_) ?_ ?_
                rotate_left
                ·show Act.put _ (some 50) _ = _
                 simp only [Act.put, e1, e2, e3, i64_w, i32_w]
                 rfl
                refine pure_ (i := 7) (N := some 51) (v := ?_) (a' := ?_) bb2_ rfl rfl (any_of HT_.out (by kernel_rfl)) (fun _ _ _ h => h) (Or.inl ⟨by rfl, ?_⟩) ?_ ?_
                rotate_left; · intro w'; go_simp; with_reducible rfl
                rotate_left; · simp only [Act.put, e1, e2, e3, i64_w, i32_w]; rfl
                refine pure_ (i := 8) (N := some 52) (v := ?_) (a' := ?_) bb1_ rfl rfl (any_of HT_.out (by kernel_rfl)) (fun _ _ _ h => h) (Or.inl ⟨by rfl, ?_⟩) ?_ ?_
                rotate_left; · intro w'; go_simp; with_reducible rfl
                rotate_left; · simp only [Act.put, e1, e2, e3, i64_w, i32_w]; rfl
                exact norm_ aa_15 (hCont (gb194) _ ⟨aa_11, aa_8, aa_12, GW194.out, GE194.out, NB0_194.out, NB194_0.out, aa_9, aa_4, aa_7⟩)
              rintro gb194 w29 ⟨h0_, h1_, h2_, h3_, h4_, h5_, h6_, h7_, h8_, h9_⟩
              have n0_ : Aside0 (Kd.R (Kd.int .u8) 5 w29 w0.heap.size (fun k_ => (P0_0_ k_ ∨ w.heap.size ≤ k_)) (.slice Ao24 x1000_2.length co24) x1000_2) := ⟨h0_⟩
              have n1_ : Aside0 (Kd.R k50 50 w29 w0.heap.size (fun k_ => (P0_0_ k_ ∨ w.heap.size ≤ k_) ∧ k_ ≠ gb194) u8 x8_2) := ⟨h1_⟩
              have n2_ : Aside0 (w29.heap[gb194]? = some (.cells #[.int .i64 0, .int .i64 0] 50 (0, 0))) := ⟨h2_⟩
              have n3_ : Aside0 (w.heap.size ≤ gb194) := ⟨h3_⟩
              have n4_ : Aside0 (w0.heap.size ≤ gb194) := ⟨h4_⟩
              have n5_ : Aside0 (g ≠ gb194) := ⟨h5_⟩
              have n6_ : Aside0 (gb194 ≠ g) := ⟨h6_⟩
              have n7_ : Aside0 (IsS57 w0 w29 g (.slice Ao24 x1000_2.length co24) x1001_2) := ⟨h7_⟩
              have n8_ : Aside0 (Kept w w29 (fun k_ => (P0_0_ k_) ∨ k_ = g)) := ⟨h8_⟩
              have n9_ : Aside0 (Below w0.heap.size w0 w29) := ⟨h9_⟩
              clear HO_8
              clear HO_1000
              clear HR183
              clear HI0
              clear HK
              clear HB
              clear h0_ h1_ h2_ h3_ h4_ h5_ h6_ h7_ h8_ h9_
              have HO_1000 := n0_
              have HO_8 := n1_
              have BK194 := n2_
              have GW194 := n3_
              have GE194 := n4_
              have NB0_194 := n5_
              have NB194_0 := n6_
              have HI0 := n7_
              have HK := n8_
              have HB := n9_
              clear n0_ n1_ n2_ n3_ n4_ n5_ n6_ n7_ n8_ n9_
              have hHeld := trivial
              refine norm_ (a' := ?_) ?_ ?_
              rotate_left; · simp only [putAll, Act.put, List.setIfInBounds_toArray, List.set_cons_zero, List.set_cons_succ]; rfl
              refine one_ (i := 10) (N := none) bb0_ rfl rfl (one_of HT_.out (by kernel_rfl)) (by decide) (fun K hK => ?_)
              have hs30 : w29.cell? ⟨gb194, 0, none⟩ = some (.int .i64 0) := bc BK194 0
              have hfs30 := blk_frozen BK194.out 0
              have hs31 : w29.cell? ⟨gb194, 1, none⟩ = some (.int .i64 0) := bc BK194 1
              have hfs31 := blk_frozen BK194.out 1
              refine skip_ (w1 := ?_) (by rfl) rfl ?_ ?_
              rotate_left
              ·go_simp
               rfl
              refine hK.out _ _ trivial (fun hHeld => ?_)
              clear hK K
              refine done_ (done_of HT_.out (by kernel_rfl)) ?_
              have n0_ : Aside0 (Kd.R k50 50 ((w29.setCell ⟨gb194, 0, none⟩ (.int .i64 (wrap64 (t188)))).setCell ⟨gb194, 1, none⟩ (.int .i64 (wrap64 (t193)))) w0.heap.size (fun k_ => (P0_0_ k_ ∨ w.heap.size ≤ k_) ∧ k_ ≠ gb194) u8 x8_2) := ⟨by (with_reducible repeat (first | apply Kd.R_alloc | apply Kd.R_drewN | apply Kd.R_drew)); exact Kd.R_mono (Kd.R_far (p := ⟨gb194, 1, none⟩) (Kd.R_far (p := ⟨gb194, 0, none⟩) (Kd.R_mono HO_8.out (fun k_ hk => (⟨hk, hk.2⟩ : _ ∧ k_ ≠ gb194))) (fun _ hk => hk.2) (.int .i64 (wrap64 (t188)))) (fun _ hk => hk.2) (.int .i64 (wrap64 (t193)))) (fun _ hk => ⟨hk.1.1, hk.1.2⟩)⟩
              have n1_ : Aside0 (Kd.R (Kd.int .u8) 5 ((w29.setCell ⟨gb194, 0, none⟩ (.int .i64 (wrap64 (t188)))).setCell ⟨gb194, 1, none⟩ (.int .i64 (wrap64 (t193)))) w0.heap.size (fun k_ => (P0_0_ k_ ∨ w.heap.size ≤ k_)) (.slice Ao24 x1000_2.length co24) x1000_2) := ⟨by (with_reducible repeat (first | apply Kd.R_alloc | apply Kd.R_drewN | apply Kd.R_drew)); exact Kd.R_mono (Kd.R_far (p := ⟨gb194, 1, none⟩) (Kd.R_far (p := ⟨gb194, 0, none⟩) (Kd.R_types HO_1000.out BK194.out (by decide)) (fun _ hk => hk.2) (.int .i64 (wrap64 (t188)))) (fun _ hk => hk.2) (.int .i64 (wrap64 (t193)))) (fun _ hk => hk.1)⟩
              have n2_ : Aside0 (((w29.setCell ⟨gb194, 0, none⟩ (.int .i64 (wrap64 (t188)))).setCell ⟨gb194, 1, none⟩ (.int .i64 (wrap64 (t193)))).heap[gb194]? = some (.cells #[.int .i64 (wrap64 (t188)), .int .i64 (wrap64 (t193))] 50 (0, 0))) := ⟨by (with_reducible repeat (first | refine blk_drewN ?_ _ | refine blk_drew ?_ | refine blk_alloc ?_ _)); refine blk_put (cs := #[.int .i64 (wrap64 (t188)), .int .i64 0]) ?_ 1 _ rfl; (with_reducible repeat (first | refine blk_drewN ?_ _ | refine blk_drew ?_ | refine blk_alloc ?_ _)); refine blk_put (cs := #[.int .i64 0, .int .i64 0]) ?_ 0 _ rfl; (with_reducible repeat (first | refine blk_drewN ?_ _ | refine blk_drew ?_ | refine blk_alloc ?_ _)); exact BK194.out⟩
              have n3_ : Aside0 (IsS57 w0 ((w29.setCell ⟨gb194, 0, none⟩ (.int .i64 (wrap64 (t188)))).setCell ⟨gb194, 1, none⟩ (.int .i64 (wrap64 (t193)))) g (.slice Ao24 x1000_2.length co24) x1001_2) := ⟨aa_9⟩
              have n4_ : Aside0 (Kept w ((w29.setCell ⟨gb194, 0, none⟩ (.int .i64 (wrap64 (t188)))).setCell ⟨gb194, 1, none⟩ (.int .i64 (wrap64 (t193)))) (fun k_ => (P0_0_ k_) ∨ k_ = g)) := ⟨aa_4⟩
              have n5_ : Aside0 (Below w0.heap.size w0 ((w29.setCell ⟨gb194, 0, none⟩ (.int .i64 (wrap64 (t188)))).setCell ⟨gb194, 1, none⟩ (.int .i64 (wrap64 (t193))))) := ⟨aa_7⟩
              (try clear HO_8)
              (try clear HO_1000)
              (try clear BK194)
              (try clear HI0)
              (try clear HK)
              (try clear HB)
              generalize ((w29.setCell ⟨gb194, 0, none⟩ (.int .i64 (wrap64 (t188)))).setCell ⟨gb194, 1, none⟩ (.int .i64 (wrap64 (t193)))) = w32 at n0_ n1_ n2_ n3_ n4_ n5_ ⊢
              have HO_8 := n0_
              have HO_1000 := n1_
              have BK194 := n2_
              have HI0 := n3_
              have HK := n4_
              have HB := n5_
              clear n0_ n1_ n2_ n3_ n4_ n5_
              have hnb33 := NB194_0.out
              have hnc33 := NB0_194.out
              have hcz34_0 : w32.cell? ⟨gb194, 0, none⟩ = some (.int .i64 (wrap64 (t188))) := bc BK194 0
              have hcz34_1 : w32.cell? ⟨gb194, 1, none⟩ = some (.int .i64 (wrap64 (t193))) := bc BK194 1
              have hfz34_0 := blk_frozen BK194.out 0
              have hfz34_1 := blk_frozen BK194.out 1
              try go_wp2_with (first | ((with_reducible refine gate_callee (f := 29) rfl ?_); refine goesL_ (some 58) rfl rfl Try.func29 (by kernel_rfl) rfl #[.pointer (some ⟨g, 0, none⟩), .int .i64 (wrap64 (t188)), .int .i64 (wrap64 (t193))] rfl aa_3 ?_; (with_reducible refine (gangwayref9_Mem_Has.calls g (fun k_ => some k_ = (.slice Ao24 x1000_2.length co24 : Value).ownBlock) (.slice Ao24 x1000_2.length co24) x1000_2 x1001_2 (wrap64 (t188)) (wrap64 (t193)) true t196 t199 w0 _ ?side1 ?side2 ?side3 A19.out).mono ?_); (case side1 => exact aa_9); (case side2 => exact aa_7); (case side3 => exact Kd.R_tight rfl HO_1000.out); rintro e w35 ⟨v197, rfl, ho0, hi, hb, hkp⟩; refine ⟨_, rfl, ?_⟩; have n0_ := am_ (Kd.R_mono (ok' := fun k_ => (P0_0_ k_ ∨ w.heap.size ≤ k_) ∧ k_ ≠ gb194) (Kd.R_keptB ((IsS57.apart HI0.out (Kd.R_apart' HO_8.out (Kd.R_typed HO_1000.out) (by decide)) (by decide))) hkp (fun k_ hk_ hs_ => Or.elim hs_ (fun hs_ => (hk_.1.2) hs_) (fun e_ => (hk_.2) e_))) (fun k_ hk_ => ⟨hk_.1.1.1.1, hk_.1.1.1.2⟩)); have n1_ := am_ (hi); have n2_ := am_ (bkept BK194 aa_12 hkp (fun hs_ => Or.elim hs_ (fun hs_ => (fun e_ => (Kd.R_ne HO_1000.out BK194.out (by decide)) e_) hs_) (fun e_ => NB194_0.out e_))); have n3_ := am_ (Kd.R_mono (ok' := fun k_ => (P0_0_ k_ ∨ w.heap.size ≤ k_)) ho0 (fun k_ hk_ => Or.elim hk_ (fun hs_ => (HO_1000.out.1 k_ (hs_).symm)) (fun hn_ => (.inr (Nat.le_trans aa_14 hn_))))); have n4_ := am_ (Kept.then_ (S := (fun k_ => (P0_0_ k_) ∨ k_ = g)) aa_4 hkp (fun k_ hs_ => Or.elim hs_ (fun hs_ => (fun e_ => Or.imp_left Or.inl ((HO_1000.out.1 k_ e_.symm))) hs_) (fun e_ => .inl (.inr e_)))); have n5_ := am_ (hb); clear HO_8; clear HI0; clear BK194; clear HK; clear HB; clear HO_1000; have HO_8 := n0_; have HI0 := n1_; have BK194 := n2_; have HO198 := n3_; have HK := n4_; have HB := n5_; clear n0_ n1_ n2_ n3_ n4_ n5_; (try clear hb); (try clear hkp); (try clear ho0); have hcz36_0 : w35.cell? ⟨gb194, 0, none⟩ = some (.int .i64 (wrap64 (t188))) := (bc BK194 0); have hcz36_1 : w35.cell? ⟨gb194, 1, none⟩ = some (.int .i64 (wrap64 (t193))) := (bc BK194 1); have hfz36_0 := blk_frozen BK194.out 0; have hfz36_1 := blk_frozen BK194.out 1) | ((with_reducible refine gate_builtin (b := .append) (xs := #[.tmp 64, .tmp 66]) rfl ?_); at_builtin; refine Kd.R_append k50 (w0 := w0) w0.heap.size rfl (.tmp 64) (.tmp 66) 24 50 (.agg #[(.int .i64 0), (.int .i64 0)]) 16 rfl Try.underlying24 info50 rfl (by decide) (by omega) u8 x8_2 (⟨wrap64 (t188), wrap64 (t193)⟩ : S50) [.int .i64 (wrap64 (t188)), .int .i64 (wrap64 (t193))] (fun k_ => (P0_0_ k_ ∨ w.heap.size ≤ k_) ∧ k_ ≠ gb194) (fun _ => False) rfl rfl ?aP (fun _ hk => hk.elim) ?aF ?aO ?aB ?aS ?aL ?_; (case aP => exact k50_mkM _ _ _ (⟨wrap64 (t188), wrap64 (t193)⟩ : S50)); (case aB => exact aa_7); (case aF => exact (fun k_ hk => ⟨(.inr (Nat.le_trans aa_14 hk)), Kd.freshB (g := gb194) (o := .cells #[.int .i64 (wrap64 (t188)), .int .i64 (wrap64 (t193))] 50 (0, 0)) aa_12 k_ hk⟩)); (case aO => exact aa_8); (case aS => exact (below_size aa_7)); (case aL => have := LMc21.out; omega); intro v201 w37 ho hb hg hat; rw [← Ny200.out] at ho; have n0_ := am_ (IsS57.grown aa_9 hg (IsS57.own_ne HI0.out HO_8.out (by decide))); have n1_ := am_ (blk_grown (g := gb194) (o := .cells #[.int .i64 (wrap64 (t188)), .int .i64 (wrap64 (t193))] 50 (0, 0)) aa_12 hg (Kd.R_away HO_8.out (fun _ hk => hk.2))); have n2_ := am_ (Kd.R_over' (by (with_reducible repeat (first | apply Kd.R_alloc | apply Kd.R_drewN | apply Kd.R_drew)); exact HO198.out) (Kd.R_typed aa_8) (by decide) hg); have n3_ := am_ (hb); have n4_ := am_ (Kept.of_grown (S := (fun k_ => (P0_0_ k_) ∨ k_ = g)) hg aa_4 (fun k_ e_ => Or.imp_left Or.inl ((HO_8.out.1 k_ e_).1))); have n5_ := am_ (ho); clear HI0; clear BK194; clear HO198; clear HB; clear HK; clear HO_8; have HI0 := n0_; have BK194 := n1_; have HO198 := n2_; have HB := n3_; have HK := n4_; have HO202 := n5_; clear n0_ n1_ n2_ n3_ n4_ n5_; clear ho hb hg hat))
              go_roundg k2
              case measure => have := HJ3.out; have := HK2.out; omega
              case rel => exact ⟨(y200), (wrap64 (x9_2 + (wrap64 (t193)))), (wrap64 (x10_2 + 1)), (t196), (t199), (v197), (by first | rfl | (simp; done) | (simp [*]; done)), (by first | rfl | (simp; done) | (simp [*]; done)), H', ⟨by have := HJ3.out; have := HK2.out; omega⟩, ⟨by (with_reducible repeat (first | apply Kd.R_alloc | apply Kd.R_drewN | apply Kd.R_drew)); exact Kd.R_mono HO202.out (fun _ hk => hk.1)⟩, ⟨by (with_reducible repeat (first | apply Kd.R_alloc | apply Kd.R_drewN | apply Kd.R_drew)); exact HO198.out⟩, ⟨aa_9⟩, ⟨aa_4⟩, ⟨aa_7⟩⟩
             ·rw [if_neg c21] at H
              exact absurd H (by simp)
            ·replace c20 := Bool.eq_false_iff.mpr c20
             subst c20
             have H1 : (some (([] : List (S50)), 21, t196, t199)) = some (r1, r2, r3, r4) := by rw [if_neg (show ¬ (false = true) by decide)] at H; exact H
             clear H
             have H := H1
             clear H1
             simp only [Option.some.injEq, Prod.mk.injEq] at H
             obtain ⟨rfl, rfl, rfl, rfl⟩ := H
             obtain ⟨HGz38, hgz38⟩ := HI0.out
             have hcz38_0 := cellS57_0 HGz38
             have hcz38_1 := cellS57_1 HGz38
             have hfz38_0 := blk_frozen HGz38 0
             have hfz38_1 := blk_frozen HGz38 1
             clear HGz38 hgz38
             obtain ⟨Ao40, co40, eo40⟩ := Kd.R_slice HO_1000.out
             subst eo40
             have q39 : ((wrap64 ((ji11) + 8)) : Int) ≤ ((x1000_2.length : Int) : Int) := of_decide_eq_true aa_16
             obtain ⟨i039, hi039, _, hsz39, _⟩ := info_parts info5
             have hroom39 : x1000_2.length ≤ co40 := (Kd.R_reads' HO_1000.out).2.1
             have hC39 : Kd.C (Kd.int .u8) _ Ao40 x1000_2.length x1000_2 := (Kd.R_reads' HO_1000.out).2.2
             have ql39 : ((ji11) : Int) ≤ ((wrap64 ((ji11) + 8)) : Int) := of_decide_eq_true aa_16
             have q039 : (0 : Int) ≤ ((ji11) : Int) := of_decide_eq_true aa_16
             have hcut39 := cut_mid (P := Try.prog) 23 5 .i64 .i64 Try.underlying23 hi039 1 hsz39 Ao40 x1000_2.length co40 (ji11) (wrap64 ((ji11) + 8)) q039 ql39 q39 hroom39
             have hr39 := Kd.C_mid (lo := ((ji11) : Int).toNat) (hi := ((wrap64 ((ji11) + 8)) : Int).toNat) (c := co40) hC39 (by omega) (by omega) hroom39
             obtain ⟨A39, hA39⟩ : ∃ A1, A1 = (if co40 = ((ji11) : Int).toNat then Ao40 else (Ao40 : Option Addr).map (·.add (((ji11) : Int).toNat * 1))) := ⟨_, rfl⟩
             obtain ⟨c39, hc39⟩ : ∃ c1, c1 = co40 - ((ji11) : Int).toNat := ⟨_, rfl⟩
             have hy39 : y180.length = ((wrap64 ((ji11) + 8)) : Int).toNat - ((ji11) : Int).toNat := (by rw [Ny180.out, List.length_drop, List.length_take] <;> omega)
             rw [show ((x1000_2).take ((wrap64 ((ji11) + 8)) : Int).toNat).drop ((ji11) : Int).toNat = y180 from Ny180.out.symm] at hr39
             replace hr39 : Kd.C (Kd.int .u8) _ A39 y180.length y180 := (by rw [hA39]; exact hr39)
             rw [← hy39, ← hA39, ← hc39] at hcut39
             have HR183 := am_ hr39
             have HC183 := am_ (show y180.length ≤ c39 from by rw [hy39, hc39]; exact Nat.sub_le_sub_right (Nat.le_trans (by omega) hroom39) _)
             clear hr39 hC39 hroom39 hi039 hsz39 hc39
             have KY39 := am_ hy39
             have KA39 := am_ hA39
             clear hy39 hA39
             have KL39 := am_ (show ((wrap64 ((ji11) + 8)) : Int).toNat ≤ x1000_2.length from by omega)
             have KM39 := am_ (show ((ji11) : Int).toNat ≤ ((wrap64 ((ji11) + 8)) : Int).toNat from by omega)
             replace q39 := eq_true q39
             try go_wp2
             have n0_ := am_ (Kd.R_drew HO_8.out)
             have n1_ := am_ (Kd.R_drew HO_1000.out)
             have n2_ := am_ (Kd.C_drew HR183.out)
             have n3_ := am_ (IsS57.drew HI0.out)
             have n4_ := am_ (Kept.drew HK.out)
             have n5_ := am_ (below_drew1 HB.out)
             clear HO_8
             clear HO_1000
             clear HR183
             clear HI0
             clear HK
             clear HB
             have HO_8 := n0_
             have HO_1000 := n1_
             have HR183 := n2_
             have HI0 := n3_
             have HK := n4_
             have HB := n5_
             clear n0_ n1_ n2_ n3_ n4_ n5_
             have q42 : (4 : Int) ≤ ((y180.length : Int) : Int) := of_decide_eq_true aa_16
             obtain ⟨i042, hi042, _, hsz42, _⟩ := info_parts info5
             have hroom42 : y180.length ≤ c39 := HC183.out
             have hC42 : Kd.C (Kd.int .u8) _ A39 y180.length y180 := aa_6
             have hcut42 := cut_to (P := Try.prog) 23 5 .i64 Try.underlying23 hi042 A39 y180.length c39 4 (by omega) q42 hroom42
             have hr42 := Kd.C_take (m := 4) hC42 (by omega)
             have hy42 : y184.length = (4 : Int).toNat := (by rw [Ny184.out, List.length_take]; omega)
             rw [← Ny184.out] at hr42
             rw [← hy42] at hcut42
             have HR187 := am_ hr42
             have HC187 := am_ (show y184.length ≤ c39 from by omega)
             clear hr42 hC42 hroom42 hi042 hsz42
             have KY42 := am_ hy42
             clear hy42
             replace q42 := eq_true q42
             have q43 : (4 : Int) ≤ ((y180.length : Int) : Int) := of_decide_eq_true aa_16
             obtain ⟨i043, hi043, _, hsz43, _⟩ := info_parts info5
             have hroom43 : y180.length ≤ c39 := HC183.out
             have hC43 : Kd.C (Kd.int .u8) _ A39 y180.length y180 := aa_6
             have hcut43 := cut_from (P := Try.prog) 23 5 .i64 Try.underlying23 hi043 1 hsz43 A39 y180.length c39 4 (by omega) q43
             have hr43 := Kd.C_drop (m := (4 : Int).toNat) (c := c39) hC43 (by omega) hroom43
             obtain ⟨A43, hA43⟩ : ∃ A1, A1 = (if c39 = (4 : Int).toNat then A39 else (A39 : Option Addr).map (·.add ((4 : Int).toNat * 1))) := ⟨_, rfl⟩
             obtain ⟨c43, hc43⟩ : ∃ c1, c1 = c39 - (4 : Int).toNat := ⟨_, rfl⟩
             have hy43 : y189.length = y180.length - (4 : Int).toNat := (by rw [Ny189.out, List.length_drop] <;> omega)
             rw [show (y180).drop (4 : Int).toNat = y189 from Ny189.out.symm] at hr43
             replace hr43 : Kd.C (Kd.int .u8) _ A43 y189.length y189 := (by rw [hA43]; exact hr43)
             rw [← hy43, ← hA43, ← hc43] at hcut43
             have HR192 := am_ hr43
             have HC192 := am_ (show y189.length ≤ c43 from by rw [hy43, hc43]; exact Nat.sub_le_sub_right hroom43 _)
             clear hr43 hC43 hroom43 hi043 hsz43 hc43
             have KY43 := am_ hy43
             have KA43 := am_ hA43
             clear hy43 hA43
             replace q43 := eq_true q43
             refine start_ (n := 11) (S := fun w' => True) (ds := []) bb16_ (by kernel_rfl) rfl rfl trivial (fun hHeld => ?_); refine with_tabW gangwayref20_Pieces.tab11 gangwayref20_Pieces.bits11 (fun HT_ HW_ => ?_)
             generalize wr.drew = w41 at HO_8 HO_1000 HR183 HI0 HK HB HR187 HR192 hHeld ⊢
             refine pure_ (i := 0) (N := some 44) (v := ?_) (a' := ?_) bb15_ rfl rfl (any_of HT_.out (by kernel_rfl)) (fun _ _ _ h => h) (Or.inl ⟨by rfl, ?_⟩) ?_ ?_
             rotate_left; · intro w'; go_simp; with_reducible rfl
             rotate_left; · simp only [Act.put, e1, e2, e3, i64_w, i32_w]; rfl
             refine pure_ (i := 1) (N := some 45) (v := ?_) (a' := ?_) bb14_ rfl rfl (any_of HT_.out (by kernel_rfl)) (fun _ _ _ h => h) (Or.inl ⟨by rfl, ?_⟩) ?_ ?_
             rotate_left; · intro w'; go_simp; with_reducible rfl
             rotate_left; · simp only [Act.put, e1, e2, e3, i64_w, i32_w]; rfl
             refine pure_ (i := 4) (N := some 48) (v := ?_) (a' := ?_) bb13_ rfl rfl (any_of HT_.out (by kernel_rfl)) (fun _ _ _ h => h) (Or.inl ⟨by rfl, ?_⟩) ?_ ?_
             rotate_left; · intro w'; go_simp; with_reducible rfl
             rotate_left; · simp only [Act.put, e1, e2, e3, i64_w, i32_w]; rfl
             refine pure_ (i := 5) (N := some 49) (v := ?_) (a' := ?_) bb12_ rfl rfl (any_of HT_.out (by kernel_rfl)) (fun _ _ _ h => h) (Or.inl ⟨by rfl, ?_⟩) ?_ ?_
             rotate_left; · intro w'; go_simp; with_reducible rfl
             rotate_left; · simp only [Act.put, e1, e2, e3, i64_w, i32_w]; rfl
             refine join_ (σ := Nat) 1 bb1_ (fun s_ => [(46, .int .u64 t188), (50, .int .u64 t193), (12, .pointer (some ⟨s_, 0, none⟩)), (47, .int .i64 (wrap64 (t188))), (51, .int .i64 (wrap64 (t193))), (52, .agg #[.int .i64 (wrap64 (t188)), .int .i64 (wrap64 (t193))])]) (fun s_ w' => (Kd.R (Kd.int .u8) 5 w' w0.heap.size (fun k_ => (P0_0_ k_ ∨ w.heap.size ≤ k_)) (.slice Ao40 x1000_2.length co40) x1000_2) ∧ (Kd.R k50 50 w' w0.heap.size (fun k_ => (P0_0_ k_ ∨ w.heap.size ≤ k_) ∧ k_ ≠ s_) u8 x8_2) ∧ (w'.heap[s_]? = some (.cells #[.int .i64 0, .int .i64 0] 50 (0, 0))) ∧ (w.heap.size ≤ s_) ∧ (w0.heap.size ≤ s_) ∧ (g ≠ s_) ∧ (s_ ≠ g) ∧ (IsS57 w0 w' g (.slice Ao40 x1000_2.length co40) x1001_2) ∧ (Kept w w' (fun k_ => (P0_0_ k_) ∨ k_ = g)) ∧ (Below w0.heap.size w0 w')) ?_ ?_
             rotate_left
             ·intro hCont
              refine two_ (i := 2) (j := 9) (Ni := some 46) (Nj := some 12) bb11_ bb10_ rfl rfl rfl rfl (two_of HT_.out (by kernel_rfl)) (by decide) (by decide) (fun K hK => ?_) (fun K hK => ?_)
              ·skip
               refine goes_ Try.func30 (by kernel_rfl) rfl #[.slice A39 y184.length c39] (by rfl) rfl rfl aa_3 ?_
               with_reducible refine (gangwayref20_Number.calls k2 _ _ y184 t188 _ ?side1 ?side2 A16.out).mono ?_
               (case side1 => exact aa_18)
               (case side2 => exact HC187.out)
               rintro e w' ⟨rfl, ⟨nd, rfl⟩⟩
               refine ⟨_, rfl, ?_⟩
               refine hK.out _ _ trivial (fun hHeld => ?_)
               clear hK K
               refine norm_ (a' := ?_) ?_ ?_
               rotate_left
               ·show Act.put _ (some 46) _ = _
                simp only [Act.put, e1, e2, e3, i64_w, i32_w]
                rfl
               refine pure_ (i := 3) (N := some 47) (v := ?_) (a' := ?_) bb9_ rfl rfl (any_of HT_.out (by kernel_rfl)) (fun _ _ _ h => h) (Or.inl ⟨by rfl, ?_⟩) ?_ ?_
               rotate_left; · intro w'; go_simp; with_reducible rfl
               rotate_left; · simp only [Act.put, e1, e2, e3, i64_w, i32_w]; rfl
               refine two_ (i := 6) (j := 9) (Ni := some 50) (Nj := some 12) bb7_ bb6_ rfl rfl rfl rfl (two_of HT_.out (by kernel_rfl)) (by decide) (by decide) (fun K hK => ?_) (fun K hK => ?_)
               ·skip
                refine goes_ Try.func30 (by kernel_rfl) rfl #[.slice A43 y189.length c43] (by rfl) rfl rfl aa_3 ?_
                with_reducible refine (gangwayref20_Number.calls k2 _ _ y189 t193 _ ?side1 ?side2 A18.out).mono ?_
                (case side1 => exact aa_19)
                (case side2 => exact HC192.out)
                rintro e w' ⟨rfl, ⟨nd, rfl⟩⟩
                refine ⟨_, rfl, ?_⟩
                refine hK.out _ _ trivial (fun hHeld => ?_)
                clear hK K
                refine norm_ (a' := ?_) ?_ ?_
                rotate_left
                ·show Act.put _ (some 50) _ = _
                 simp only [Act.put, e1, e2, e3, i64_w, i32_w]
                 rfl
                refine pure_ (i := 7) (N := some 51) (v := ?_) (a' := ?_) bb5_ rfl rfl (any_of HT_.out (by kernel_rfl)) (fun _ _ _ h => h) (Or.inl ⟨by rfl, ?_⟩) ?_ ?_
                rotate_left; · intro w'; go_simp; with_reducible rfl
                rotate_left; · simp only [Act.put, e1, e2, e3, i64_w, i32_w]; rfl
                refine pure_ (i := 8) (N := some 52) (v := ?_) (a' := ?_) bb3_ rfl rfl (any_of HT_.out (by kernel_rfl)) (fun _ _ _ h => h) (Or.inl ⟨by rfl, ?_⟩) ?_ ?_
                rotate_left; · intro w'; go_simp; with_reducible rfl
                rotate_left; · simp only [Act.put, e1, e2, e3, i64_w, i32_w]; rfl
                refine one_ (i := 9) (N := some 12) bb1_ rfl rfl (one_of HT_.out (by kernel_rfl)) (by decide) (fun K hK => ?_)
                refine box_step ?hg (N := 12) ?hd (cs := #[.int .i64 0, .int .i64 0]) (t := 50) ?hr ?_; (case hd => rfl); (case hg => rfl); (case hr => first | (go_simp; done) | (go_simp; rfl))
                intro gb194 hg w44 hbox hb
                have n0_ := am_ (Kd.R_below (Kd.R_elderB aa_8 gb194 (Nat.le_of_eq hg.symm)) hb)
                have n1_ := am_ (Kd.R_below aa_11 hb)
                have n2_ := am_ (IsS57.below aa_13 hb)
                have n3_ := am_ (Kd.C_below aa_6 hb)
                have n4_ := am_ (Kd.C_below aa_5 hb)
                have n5_ := am_ (Kd.C_below aa_0 hb)
                have n6_ := am_ (Kept.below (S := (fun k_ => (P0_0_ k_) ∨ k_ = g)) aa_10 hb)
                have n7_ := am_ (below_step aa_1 hb)
                have n8_ := am_ (hbox)
                have n9_ := am_ ((by rw [hg]; exact aa_2 : w.heap.size ≤ gb194))
                have n10_ := am_ ((by rw [hg]; exact (below_size aa_1) : w0.heap.size ≤ gb194))
                have n11_ := am_ ((by rw [hg]; exact Nat.ne_of_lt (IsS57.lt (show IsS57 w0 _ g (.slice Ao40 x1000_2.length co40) x1001_2 from by repeat (first | (with_reducible first | exact HI0.out | apply IsS57.alloc | apply IsS57.drewN | apply IsS57.drew | apply IsS57.set_0 | apply IsS57.set_1) | exact HI0.out))) : g ≠ gb194))
                have n12_ := am_ ((by rw [hg]; exact Nat.ne_of_gt (IsS57.lt (show IsS57 w0 _ g (.slice Ao40 x1000_2.length co40) x1001_2 from by repeat (first | (with_reducible first | exact HI0.out | apply IsS57.alloc | apply IsS57.drewN | apply IsS57.drew | apply IsS57.set_0 | apply IsS57.set_1) | exact HI0.out))) : gb194 ≠ g))
                clear HO_8
                clear HO_1000
                clear HI0
                clear HR183
                clear HR187
                clear HR192
                clear HK
                clear HB
                have HO_8 := n0_
                have HO_1000 := n1_
                have HI0 := n2_
                have HR183 := n3_
                have HR187 := n4_
                have HR192 := n5_
                have HK := n6_
                have HB := n7_
                have BK194 := n8_
                have GW194 := n9_
                have GE194 := n10_
                have NB0_194 := n11_
                have NB194_0 := n12_
                clear n0_ n1_ n2_ n3_ n4_ n5_ n6_ n7_ n8_ n9_ n10_ n11_ n12_
                clear hb hbox hg
                refine hK.out _ _ trivial (fun hHeld => ?_)
                clear hK K
                refine norm_ (a' := ?_) ?_ ?_
                rotate_left
                ·show Act.put _ (some 12) _ = _
                 simp only [Act.put, e1, e2, e3, i64_w, i32_w]
                 rfl
                exact norm_ aa_15 (hCont (gb194) _ ⟨aa_11, aa_8, aa_12, GW194.out, GE194.out, NB0_194.out, NB194_0.out, aa_9, aa_4, aa_7⟩)
               ·skip
                refine box_step ?hg (N := 12) ?hd (cs := #[.int .i64 0, .int .i64 0]) (t := 50) ?hr ?_; (case hd => rfl); (case hg => rfl); (case hr => first | (go_simp; done) | (go_simp; rfl))
                intro gb194 hg w44 hbox hb
                have n0_ := am_ (Kd.R_below (Kd.R_elderB aa_8 gb194 (Nat.le_of_eq hg.symm)) hb)
                have n1_ := am_ (Kd.R_below aa_11 hb)
                have n2_ := am_ (IsS57.below aa_13 hb)
                have n3_ := am_ (Kd.C_below aa_6 hb)
                have n4_ := am_ (Kd.C_below aa_5 hb)
                have n5_ := am_ (Kd.C_below aa_0 hb)
                have n6_ := am_ (Kept.below (S := (fun k_ => (P0_0_ k_) ∨ k_ = g)) aa_10 hb)
                have n7_ := am_ (below_step aa_1 hb)
                have n8_ := am_ (hbox)
                have n9_ := am_ ((by rw [hg]; exact aa_2 : w.heap.size ≤ gb194))
                have n10_ := am_ ((by rw [hg]; exact (below_size aa_1) : w0.heap.size ≤ gb194))
                have n11_ := am_ ((by rw [hg]; exact Nat.ne_of_lt (IsS57.lt (show IsS57 w0 _ g (.slice Ao40 x1000_2.length co40) x1001_2 from by repeat (first | (with_reducible first | exact HI0.out | apply IsS57.alloc | apply IsS57.drewN | apply IsS57.drew | apply IsS57.set_0 | apply IsS57.set_1) | exact HI0.out))) : g ≠ gb194))
                have n12_ := am_ ((by rw [hg]; exact Nat.ne_of_gt (IsS57.lt (show IsS57 w0 _ g (.slice Ao40 x1000_2.length co40) x1001_2 from by repeat (first | (with_reducible first | exact HI0.out | apply IsS57.alloc | apply IsS57.drewN | apply IsS57.drew | apply IsS57.set_0 | apply IsS57.set_1) | exact HI0.out))) : gb194 ≠ g))
                clear HO_8
                clear HO_1000
                clear HI0
                clear HR183
                clear HR187
                clear HR192
                clear HK
                clear HB
                have HO_8 := n0_
                have HO_1000 := n1_
                have HI0 := n2_
                have HR183 := n3_
                have HR187 := n4_
                have HR192 := n5_
                have HK := n6_
                have HB := n7_
                have BK194 := n8_
                have GW194 := n9_
                have GE194 := n10_
                have NB0_194 := n11_
                have NB194_0 := n12_
                clear n0_ n1_ n2_ n3_ n4_ n5_ n6_ n7_ n8_ n9_ n10_ n11_ n12_
                clear hb hbox hg
                refine hK.out _ _ trivial (fun hHeld => ?_)
                clear hK K
                refine norm_ (a' := ?_) ?_ ?_
                rotate_left
                ·show Act.put _ (some 12) _ = _
                 simp only [Act.put, e1, e2, e3, i64_w, i32_w]
                 rfl
                refine one_ (i := 6) (N := some 50) bb4_ rfl rfl (one_of HT_.out (by kernel_rfl)) (by decide) (fun K hK => ?_)
                refine goes_ Try.func30 (by kernel_rfl) rfl #[.slice A43 y189.length c43] (by rfl) rfl rfl aa_3 ?_
                with_reducible refine (gangwayref20_Number.calls k2 _ _ y189 t193 _ ?side1 ?side2 A18.out).mono ?_
                (case side1 => exact aa_19)
                (case side2 => exact HC192.out)
                rintro e w' ⟨rfl, ⟨nd, rfl⟩⟩
                refine ⟨_, rfl, ?_⟩
                refine hK.out _ _ trivial (fun hHeld => ?_)
                clear hK K
                refine norm_ (a' := ?_) ?_ ?_
                rotate_left
                ·show Act.put _ (some 50) _ = _
                 simp only [Act.put, e1, e2, e3, i64_w, i32_w]
                 rfl
                refine pure_ (i := 7) (N := some 51) (v := ?_) (a' := ?_) bb2_ rfl rfl (any_of HT_.out (by kernel_rfl)) (fun _ _ _ h => h) (Or.inl ⟨by rfl, ?_⟩) ?_ ?_
                rotate_left; · intro w'; go_simp; with_reducible rfl
                rotate_left; · simp only [Act.put, e1, e2, e3, i64_w, i32_w]; rfl
                refine pure_ (i := 8) (N := some 52) (v := ?_) (a' := ?_) bb1_ rfl rfl (any_of HT_.out (by kernel_rfl)) (fun _ _ _ h => h) (Or.inl ⟨by rfl, ?_⟩) ?_ ?_
                rotate_left; · intro w'; go_simp; with_reducible rfl
                rotate_left; · simp only [Act.put, e1, e2, e3, i64_w, i32_w]; rfl
                exact norm_ aa_15 (hCont (gb194) _ ⟨aa_11, aa_8, aa_12, GW194.out, GE194.out, NB0_194.out, NB194_0.out, aa_9, aa_4, aa_7⟩)
              ·skip
               refine box_step ?hg (N := 12) ?hd (cs := #[.int .i64 0, .int .i64 0]) (t := 50) ?hr ?_; (case hd => rfl); (case hg => rfl); (case hr => first | (go_simp; done) | (go_simp; rfl))
               intro gb194 hg w44 hbox hb
               have n0_ := am_ (Kd.R_below (Kd.R_elderB aa_8 gb194 (Nat.le_of_eq hg.symm)) hb)
               have n1_ := am_ (Kd.R_below aa_11 hb)
               have n2_ := am_ (IsS57.below aa_13 hb)
               have n3_ := am_ (Kd.C_below aa_6 hb)
               have n4_ := am_ (Kd.C_below aa_5 hb)
               have n5_ := am_ (Kd.C_below aa_0 hb)
               have n6_ := am_ (Kept.below (S := (fun k_ => (P0_0_ k_) ∨ k_ = g)) aa_10 hb)
               have n7_ := am_ (below_step aa_1 hb)
               have n8_ := am_ (hbox)
               have n9_ := am_ ((by rw [hg]; exact aa_2 : w.heap.size ≤ gb194))
               have n10_ := am_ ((by rw [hg]; exact (below_size aa_1) : w0.heap.size ≤ gb194))
               have n11_ := am_ ((by rw [hg]; exact Nat.ne_of_lt (IsS57.lt (show IsS57 w0 _ g (.slice Ao40 x1000_2.length co40) x1001_2 from by repeat (first | (with_reducible first | exact HI0.out | apply IsS57.alloc | apply IsS57.drewN | apply IsS57.drew | apply IsS57.set_0 | apply IsS57.set_1) | exact HI0.out))) : g ≠ gb194))
               have n12_ := am_ ((by rw [hg]; exact Nat.ne_of_gt (IsS57.lt (show IsS57 w0 _ g (.slice Ao40 x1000_2.length co40) x1001_2 from by repeat (first | (with_reducible first | exact HI0.out | apply IsS57.alloc | apply IsS57.drewN | apply IsS57.drew | apply IsS57.set_0 | apply IsS57.set_1) | exact HI0.out))) : gb194 ≠ g))
               clear HO_8
               clear HO_1000
               clear HI0
               clear HR183
               clear HR187
               clear HR192
               clear HK
               clear HB
               have HO_8 := n0_
               have HO_1000 := n1_
               have HI0 := n2_
               have HR183 := n3_
               have HR187 := n4_
               have HR192 := n5_
               have HK := n6_
               have HB := n7_
               have BK194 := n8_
               have GW194 := n9_
               have GE194 := n10_
               have NB0_194 := n11_
               have NB194_0 := n12_
               clear n0_ n1_ n2_ n3_ n4_ n5_ n6_ n7_ n8_ n9_ n10_ n11_ n12_
               clear hb hbox hg
               refine hK.out _ _ trivial (fun hHeld => ?_)
               clear hK K
               refine norm_ (a' := ?_) ?_ ?_
               rotate_left
               ·show Act.put _ (some 12) _ = _
                simp only [Act.put, e1, e2, e3, i64_w, i32_w]
                rfl
               refine one_ (i := 2) (N := some 46) bb8_ rfl rfl (one_of HT_.out (by kernel_rfl)) (by decide) (fun K hK => ?_)
               refine goes_ Try.func30 (by kernel_rfl) rfl #[.slice A39 y184.length c39] (by rfl) rfl rfl aa_3 ?_
               with_reducible refine (gangwayref20_Number.calls k2 _ _ y184 t188 _ ?side1 ?side2 A16.out).mono ?_
               (case side1 => exact aa_18)
               (case side2 => exact HC187.out)
               rintro e w' ⟨rfl, ⟨nd, rfl⟩⟩
               refine ⟨_, rfl, ?_⟩
               refine hK.out _ _ trivial (fun hHeld => ?_)
               clear hK K
               refine norm_ (a' := ?_) ?_ ?_
               rotate_left
               ·show Act.put _ (some 46) _ = _
                simp only [Act.put, e1, e2, e3, i64_w, i32_w]
                rfl
               refine pure_ (i := 3) (N := some 47) (v := ?_) (a' := ?_) bb6_ rfl rfl (any_of HT_.out (by kernel_rfl)) (fun _ _ _ h => h) (Or.inl ⟨by rfl, ?_⟩) ?_ ?_
               rotate_left; · intro w'; go_simp; with_reducible rfl
               rotate_left; · simp only [Act.put, e1, e2, e3, i64_w, i32_w]; rfl
               refine one_ (i := 6) (N := some 50) bb4_ rfl rfl (one_of HT_.out (by kernel_rfl)) (by decide) (fun K hK => ?_)
               refine goes_ Try.func30 (by kernel_rfl) rfl #[.slice A43 y189.length c43] (by rfl) rfl rfl aa_3 ?_
               with_reducible refine (gangwayref20_Number.calls k2 _ _ y189 t193 _ ?side1 ?side2 A18.out).mono ?_
               (case side1 => exact aa_19)
               (case side2 => exact HC192.out)
               rintro e w' ⟨rfl, ⟨nd, rfl⟩⟩
               refine ⟨_, rfl, ?_⟩
               refine hK.out _ _ trivial (fun hHeld => ?_)
               clear hK K
               refine norm_ (a' := ?_) ?_ ?_
               rotate_left
               ·show Act.put _ (some 50) _ = _
                simp only [Act.put, e1, e2, e3, i64_w, i32_w]
                rfl
               refine pure_ (i := 7) (N := some 51) (v := ?_) (a' := ?_) bb2_ rfl rfl (any_of HT_.out (by kernel_rfl)) (fun _ _ _ h => h) (Or.inl ⟨by rfl, ?_⟩) ?_ ?_
               rotate_left; · intro w'; go_simp; with_reducible rfl
               rotate_left; · simp only [Act.put, e1, e2, e3, i64_w, i32_w]; rfl
               refine pure_ (i := 8) (N := some 52) (v := ?_) (a' := ?_) bb1_ rfl rfl (any_of HT_.out (by kernel_rfl)) (fun _ _ _ h => h) (Or.inl ⟨by rfl, ?_⟩) ?_ ?_
               rotate_left; · intro w'; go_simp; with_reducible rfl
               rotate_left; · simp only [Act.put, e1, e2, e3, i64_w, i32_w]; rfl
               exact norm_ aa_15 (hCont (gb194) _ ⟨aa_11, aa_8, aa_12, GW194.out, GE194.out, NB0_194.out, NB194_0.out, aa_9, aa_4, aa_7⟩)
             rintro gb194 w45 ⟨h0_, h1_, h2_, h3_, h4_, h5_, h6_, h7_, h8_, h9_⟩
             have n0_ : Aside0 (Kd.R (Kd.int .u8) 5 w45 w0.heap.size (fun k_ => (P0_0_ k_ ∨ w.heap.size ≤ k_)) (.slice Ao40 x1000_2.length co40) x1000_2) := ⟨h0_⟩
             have n1_ : Aside0 (Kd.R k50 50 w45 w0.heap.size (fun k_ => (P0_0_ k_ ∨ w.heap.size ≤ k_) ∧ k_ ≠ gb194) u8 x8_2) := ⟨h1_⟩
             have n2_ : Aside0 (w45.heap[gb194]? = some (.cells #[.int .i64 0, .int .i64 0] 50 (0, 0))) := ⟨h2_⟩
             have n3_ : Aside0 (w.heap.size ≤ gb194) := ⟨h3_⟩
             have n4_ : Aside0 (w0.heap.size ≤ gb194) := ⟨h4_⟩
             have n5_ : Aside0 (g ≠ gb194) := ⟨h5_⟩
             have n6_ : Aside0 (gb194 ≠ g) := ⟨h6_⟩
             have n7_ : Aside0 (IsS57 w0 w45 g (.slice Ao40 x1000_2.length co40) x1001_2) := ⟨h7_⟩
             have n8_ : Aside0 (Kept w w45 (fun k_ => (P0_0_ k_) ∨ k_ = g)) := ⟨h8_⟩
             have n9_ : Aside0 (Below w0.heap.size w0 w45) := ⟨h9_⟩
             clear HO_8
             clear HO_1000
             clear HR183
             clear HI0
             clear HK
             clear HB
             clear h0_ h1_ h2_ h3_ h4_ h5_ h6_ h7_ h8_ h9_
             have HO_1000 := n0_
             have HO_8 := n1_
             have BK194 := n2_
             have GW194 := n3_
             have GE194 := n4_
             have NB0_194 := n5_
             have NB194_0 := n6_
             have HI0 := n7_
             have HK := n8_
             have HB := n9_
             clear n0_ n1_ n2_ n3_ n4_ n5_ n6_ n7_ n8_ n9_
             have hHeld := trivial
             refine norm_ (a' := ?_) ?_ ?_
             rotate_left; · simp only [putAll, Act.put, List.setIfInBounds_toArray, List.set_cons_zero, List.set_cons_succ]; rfl
             refine one_ (i := 10) (N := none) bb0_ rfl rfl (one_of HT_.out (by kernel_rfl)) (by decide) (fun K hK => ?_)
             have hs46 : w45.cell? ⟨gb194, 0, none⟩ = some (.int .i64 0) := bc BK194 0
             have hfs46 := blk_frozen BK194.out 0
             have hs47 : w45.cell? ⟨gb194, 1, none⟩ = some (.int .i64 0) := bc BK194 1
             have hfs47 := blk_frozen BK194.out 1
             refine skip_ (w1 := ?_) (by rfl) rfl ?_ ?_
             rotate_left
             ·go_simp
              rfl
             refine hK.out _ _ trivial (fun hHeld => ?_)
             clear hK K
             refine done_ (done_of HT_.out (by kernel_rfl)) ?_
             have n0_ : Aside0 (Kd.R k50 50 ((w45.setCell ⟨gb194, 0, none⟩ (.int .i64 (wrap64 (t188)))).setCell ⟨gb194, 1, none⟩ (.int .i64 (wrap64 (t193)))) w0.heap.size (fun k_ => (P0_0_ k_ ∨ w.heap.size ≤ k_) ∧ k_ ≠ gb194) u8 x8_2) := ⟨by (with_reducible repeat (first | apply Kd.R_alloc | apply Kd.R_drewN | apply Kd.R_drew)); exact Kd.R_mono (Kd.R_far (p := ⟨gb194, 1, none⟩) (Kd.R_far (p := ⟨gb194, 0, none⟩) (Kd.R_mono HO_8.out (fun k_ hk => (⟨hk, hk.2⟩ : _ ∧ k_ ≠ gb194))) (fun _ hk => hk.2) (.int .i64 (wrap64 (t188)))) (fun _ hk => hk.2) (.int .i64 (wrap64 (t193)))) (fun _ hk => ⟨hk.1.1, hk.1.2⟩)⟩
             have n1_ : Aside0 (Kd.R (Kd.int .u8) 5 ((w45.setCell ⟨gb194, 0, none⟩ (.int .i64 (wrap64 (t188)))).setCell ⟨gb194, 1, none⟩ (.int .i64 (wrap64 (t193)))) w0.heap.size (fun k_ => (P0_0_ k_ ∨ w.heap.size ≤ k_)) (.slice Ao40 x1000_2.length co40) x1000_2) := ⟨by (with_reducible repeat (first | apply Kd.R_alloc | apply Kd.R_drewN | apply Kd.R_drew)); exact Kd.R_mono (Kd.R_far (p := ⟨gb194, 1, none⟩) (Kd.R_far (p := ⟨gb194, 0, none⟩) (Kd.R_types HO_1000.out BK194.out (by decide)) (fun _ hk => hk.2) (.int .i64 (wrap64 (t188)))) (fun _ hk => hk.2) (.int .i64 (wrap64 (t193)))) (fun _ hk => hk.1)⟩
             have n2_ : Aside0 (((w45.setCell ⟨gb194, 0, none⟩ (.int .i64 (wrap64 (t188)))).setCell ⟨gb194, 1, none⟩ (.int .i64 (wrap64 (t193)))).heap[gb194]? = some (.cells #[.int .i64 (wrap64 (t188)), .int .i64 (wrap64 (t193))] 50 (0, 0))) := ⟨by (with_reducible repeat (first | refine blk_drewN ?_ _ | refine blk_drew ?_ | refine blk_alloc ?_ _)); refine blk_put (cs := #[.int .i64 (wrap64 (t188)), .int .i64 0]) ?_ 1 _ rfl; (with_reducible repeat (first | refine blk_drewN ?_ _ | refine blk_drew ?_ | refine blk_alloc ?_ _)); refine blk_put (cs := #[.int .i64 0, .int .i64 0]) ?_ 0 _ rfl; (with_reducible repeat (first | refine blk_drewN ?_ _ | refine blk_drew ?_ | refine blk_alloc ?_ _)); exact BK194.out⟩
             have n3_ : Aside0 (IsS57 w0 ((w45.setCell ⟨gb194, 0, none⟩ (.int .i64 (wrap64 (t188)))).setCell ⟨gb194, 1, none⟩ (.int .i64 (wrap64 (t193)))) g (.slice Ao40 x1000_2.length co40) x1001_2) := ⟨aa_9⟩
             have n4_ : Aside0 (Kept w ((w45.setCell ⟨gb194, 0, none⟩ (.int .i64 (wrap64 (t188)))).setCell ⟨gb194, 1, none⟩ (.int .i64 (wrap64 (t193)))) (fun k_ => (P0_0_ k_) ∨ k_ = g)) := ⟨aa_4⟩
             have n5_ : Aside0 (Below w0.heap.size w0 ((w45.setCell ⟨gb194, 0, none⟩ (.int .i64 (wrap64 (t188)))).setCell ⟨gb194, 1, none⟩ (.int .i64 (wrap64 (t193))))) := ⟨aa_7⟩
             (try clear HO_8)
             (try clear HO_1000)
             (try clear BK194)
             (try clear HI0)
             (try clear HK)
             (try clear HB)
             generalize ((w45.setCell ⟨gb194, 0, none⟩ (.int .i64 (wrap64 (t188)))).setCell ⟨gb194, 1, none⟩ (.int .i64 (wrap64 (t193)))) = w48 at n0_ n1_ n2_ n3_ n4_ n5_ ⊢
             have HO_8 := n0_
             have HO_1000 := n1_
             have BK194 := n2_
             have HI0 := n3_
             have HK := n4_
             have HB := n5_
             clear n0_ n1_ n2_ n3_ n4_ n5_
             have hnb49 := NB194_0.out
             have hnc49 := NB0_194.out
             have hcz50_0 : w48.cell? ⟨gb194, 0, none⟩ = some (.int .i64 (wrap64 (t188))) := bc BK194 0
             have hcz50_1 : w48.cell? ⟨gb194, 1, none⟩ = some (.int .i64 (wrap64 (t193))) := bc BK194 1
             have hfz50_0 := blk_frozen BK194.out 0
             have hfz50_1 := blk_frozen BK194.out 1
             try go_wp2_with (first | ((with_reducible refine gate_callee (f := 29) rfl ?_); refine goesL_ (some 58) rfl rfl Try.func29 (by kernel_rfl) rfl #[.pointer (some ⟨g, 0, none⟩), .int .i64 (wrap64 (t188)), .int .i64 (wrap64 (t193))] rfl aa_3 ?_; (with_reducible refine (gangwayref9_Mem_Has.calls g (fun k_ => some k_ = (.slice Ao40 x1000_2.length co40 : Value).ownBlock) (.slice Ao40 x1000_2.length co40) x1000_2 x1001_2 (wrap64 (t188)) (wrap64 (t193)) false t196 t199 w0 _ ?side1 ?side2 ?side3 A19.out).mono ?_); (case side1 => exact aa_9); (case side2 => exact aa_7); (case side3 => exact Kd.R_tight rfl HO_1000.out); rintro e w51 ⟨v197, rfl, ho0, hi, hb, hkp⟩; refine ⟨_, rfl, ?_⟩; have n0_ := am_ (Kd.R_mono (ok' := fun k_ => (P0_0_ k_ ∨ w.heap.size ≤ k_) ∧ k_ ≠ gb194) (Kd.R_keptB ((IsS57.apart HI0.out (Kd.R_apart' HO_8.out (Kd.R_typed HO_1000.out) (by decide)) (by decide))) hkp (fun k_ hk_ hs_ => Or.elim hs_ (fun hs_ => (hk_.1.2) hs_) (fun e_ => (hk_.2) e_))) (fun k_ hk_ => ⟨hk_.1.1.1.1, hk_.1.1.1.2⟩)); have n1_ := am_ (hi); have n2_ := am_ (bkept BK194 aa_12 hkp (fun hs_ => Or.elim hs_ (fun hs_ => (fun e_ => (Kd.R_ne HO_1000.out BK194.out (by decide)) e_) hs_) (fun e_ => NB194_0.out e_))); have n3_ := am_ (Kd.R_mono (ok' := fun k_ => (P0_0_ k_ ∨ w.heap.size ≤ k_)) ho0 (fun k_ hk_ => Or.elim hk_ (fun hs_ => (HO_1000.out.1 k_ (hs_).symm)) (fun hn_ => (.inr (Nat.le_trans aa_14 hn_))))); have n4_ := am_ (Kept.then_ (S := (fun k_ => (P0_0_ k_) ∨ k_ = g)) aa_4 hkp (fun k_ hs_ => Or.elim hs_ (fun hs_ => (fun e_ => Or.imp_left Or.inl ((HO_1000.out.1 k_ e_.symm))) hs_) (fun e_ => .inl (.inr e_)))); have n5_ := am_ (hb); clear HO_8; clear HI0; clear BK194; clear HK; clear HB; clear HO_1000; have HO_8 := n0_; have HI0 := n1_; have BK194 := n2_; have HO198 := n3_; have HK := n4_; have HB := n5_; clear n0_ n1_ n2_ n3_ n4_ n5_; (try clear hb); (try clear hkp); (try clear ho0)))
             go_ret2
             exact ⟨_, _, by first | rfl | (simp [errW_none, errW_some] <;> rfl) | (simp only [← hji11]; first | rfl | (simp [errW_none, errW_some] <;> rfl)) | (simp [*, errW_none, errW_some] <;> rfl), by first | exact Kd.R_nil _ _ _ _ _ | exact Kd.N_nil _ _ _ _ _ | exact Kd.V_nil _ _ _ _ _ | exact Kd.Q_nil _ _ _ _ _ | exact Kd.S_nil _ _ _ _ _, by (with_reducible repeat (first | apply Kd.R_alloc | apply Kd.R_drewN | apply Kd.R_drew)); exact HO198.out, aa_9, aa_7, by repeat (first | (with_reducible first | exact HK.out | apply Kept.alloc | apply Kept.drewN | apply Kept.drew | refine Kept.setCell ?_ (.inl (.inr rfl)) _ | refine Kept.setCell ?_ (.inr GW194.out) _) | exact HK.out)⟩
           ·rw [if_neg c15] at H
            exact absurd H (by simp)
          ·rw [if_neg c14] at H
           exact absurd H (by simp)
         ·rw [if_neg c13] at H
          exact absurd H (by simp)
        ·rw [if_neg c12] at H
         exact absurd H (by simp)
       ·rw [if_neg c10] at H
        have c10b0 : decide (x10_2 < a2) = false := decide_eq_false c10
        clear c10
        by_cases c52 : x9_2 > 1048576
        ·rw [if_pos c52] at H
         have c52b0 : decide (1048576 < x9_2) = true := decide_eq_true c52
         clear c52
         simp only [Option.some.injEq, Prod.mk.injEq] at H
         obtain ⟨rfl, rfl, rfl, rfl⟩ := H
         go_wp2
         go_ret2
         exact ⟨_, _, by first | rfl | (simp [errW_none, errW_some] <;> rfl) | (simp [*, errW_none, errW_some] <;> rfl), by first | exact Kd.R_nil _ _ _ _ _ | exact Kd.N_nil _ _ _ _ _ | exact Kd.V_nil _ _ _ _ _ | exact Kd.Q_nil _ _ _ _ _ | exact Kd.S_nil _ _ _ _ _, aa_11, aa_13, aa_1, by repeat (first | (with_reducible first | exact HK.out | apply Kept.alloc | apply Kept.drewN | apply Kept.drew | refine Kept.setCell ?_ (.inl (.inr rfl)) _) | exact HK.out)⟩
        ·rw [if_neg c52] at H
         have c52b0 : decide (1048576 < x9_2) = false := decide_eq_false c52
         clear c52
         simp only [Option.some.injEq, Prod.mk.injEq] at H
         obtain ⟨rfl, rfl, rfl, rfl⟩ := H
         go_wp2
         go_ret2
         exact ⟨_, _, by first | rfl | (simp [errW_none, errW_some] <;> rfl) | (simp [*, errW_none, errW_some] <;> rfl), aa_8, aa_11, aa_13, aa_1, by repeat (first | (with_reducible first | exact HK.out | apply Kept.alloc | apply Kept.drewN | apply Kept.drew | refine Kept.setCell ?_ (.inl (.inr rfl)) _) | exact HK.out)⟩
    ·replace c8 := Bool.eq_false_iff.mpr c8
     subst c8
     have H1 : (some (([] : List (S50)), 21, t176, t179)) = some (r1, r2, r3, r4) := by rw [if_neg (show ¬ (false = true) by decide)] at H; exact H
     clear H
     have H := H1
     clear H1
     simp only [Option.some.injEq, Prod.mk.injEq] at H
     obtain ⟨rfl, rfl, rfl, rfl⟩ := H
     go_wp2_with (first | ((with_reducible refine gate_callee (f := 29) rfl ?_); refine goesL_ (some 23) rfl rfl Try.func29 (by kernel_rfl) rfl #[.pointer (some ⟨g, 0, none⟩), .int .i64 a1, .int .i64 (wrap64 (8 * a2))] rfl aa_3 ?_; (with_reducible refine (gangwayref9_Mem_Has.calls g (fun k_ => some k_ = (u9000_ : Value).ownBlock) u9000_ l0_0 s0_1 a1 (wrap64 (8 * a2)) false t176 t179 w0 _ ?side1 ?side2 ?side3 A7.out).mono ?_); (case side1 => exact aa_13); (case side2 => exact aa_1); (case side3 => exact Kd.R_tight rfl HO_1000.out); rintro e w53 ⟨v177, rfl, ho0, hi, hb, hkp⟩; refine ⟨_, rfl, ?_⟩; have n0_ := am_ (hi); have n1_ := am_ (Kd.R_mono (ok' := fun k_ => (P0_0_ k_ ∨ w.heap.size ≤ k_)) ho0 (fun k_ hk_ => Or.elim hk_ (fun hs_ => (HO_1000.out.1 k_ (hs_).symm)) (fun hn_ => (.inr (Nat.le_trans aa_2 hn_))))); have n2_ := am_ (Kept.then_ (S := (fun k_ => (P0_0_ k_) ∨ k_ = g)) aa_10 hkp (fun k_ hs_ => Or.elim hs_ (fun hs_ => (fun e_ => Or.imp_left Or.inl ((HO_1000.out.1 k_ e_.symm))) hs_) (fun e_ => .inl (.inr e_)))); have n3_ := am_ (hb); clear HI0; clear HK; clear HB; clear HO_1000; have HI0 := n0_; have HO178 := n1_; have HK := n2_; have HB := n3_; clear n0_ n1_ n2_ n3_; (try clear hb); (try clear hkp); (try clear ho0)))
     go_ret2
     exact ⟨_, _, by first | rfl | (simp [errW_none, errW_some] <;> rfl) | (simp [*, errW_none, errW_some] <;> rfl), by first | exact Kd.R_nil _ _ _ _ _ | exact Kd.N_nil _ _ _ _ _ | exact Kd.V_nil _ _ _ _ _ | exact Kd.Q_nil _ _ _ _ _ | exact Kd.S_nil _ _ _ _ _, by (with_reducible repeat (first | apply Kd.R_alloc | apply Kd.R_drewN | apply Kd.R_drew)); exact HO178.out, aa_13, aa_1, by repeat (first | (with_reducible first | exact HK.out | apply Kept.alloc | apply Kept.drewN | apply Kept.drew | refine Kept.setCell ?_ (.inl (.inr rfl)) _) | exact HK.out)⟩

end Go.Proofs.Ytdoaininjfbemaa.PAll
